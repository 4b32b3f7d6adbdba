/- A part of this claim's proof: functions of the program as plain functions, with the proof that the code comes to their answers, and facts about them. Condition: none of its own. -/
import Derived.Test.YtnkfbappnpnaoaaDoorCJx1
import Derived.Test.YtnkfbappnpnaoaaDoorCJx11
import Derived.Test.YtnkfbappnpnaoaaDoorCJx14
import Derived.Test.YtnkfbappnpnaoaaDoorCJx7
import Derived.Test.YtnkfbappnpnaoaaDoorCJx12
import Derived.Test.YtnkfbappnpnaoaaDoorCJz
namespace Go.Proofs.YtnkfbappnpnaoaaDoor.Q
open Go.RowKit Go.Proofs.YtnkfbappnpnaoaaDoorW.PrintWords Go.Proofs.YtnkfbappnpnaoaaDoorW.PrintLast Go.Proofs.YtnkfbappnpnaoaaDoorW.PrintMore
attribute [local go_sem] max2_int min2_int max_two min_two max_three min_three max_four min_four   -- for this text's walks alone
set_option linter.unusedVariables false
set_option linter.unusedSimpArgs false
def spec_l20Place.l0 : Nat → Int → Int → List Int → Int → Int → List Int → List ByteArray → Option (Int × List Int × List ByteArray × Int)
  | 0, _, _, _, _, _, _, _ => none
  | k + 1, x1, x6, x1000, x1001, x447000, x447001, x447002 => if x6 > 0 then ((spec_l20Term.f k x1000 x1001 x447000 x447001 0).bind fun bt449 => ((spec_TermText.f k x447000 x447001 bt449.1).bind fun t453 => (if x447002.length < 8796093022208 then (spec_l20Place.l0 k x1 (wrap64 (x6 - 1)) x1000 bt449.2 x447000 x447001 (x447002 ++ [t453])) else (none)))) else ((spec_l20Rd_odd.f k x1000 x1001 x1).bind fun bt457 => (if bt457.1 = true then ((spec_l20Rd_pick.f k x1000 bt457.2 3).bind fun bt459 => (if bt459.1 = 0 then (if 0 < (x447002.length : Int) then (some (x447000, x447001, (x447002.set (0 : Int).toNat (⟨#[40, 65, 49, 41]⟩ : ByteArray)), bt459.2)) else (none)) else (if bt459.1 = 1 then (some (7, x447001, x447002, bt459.2)) else (some (0, ([] : List Int), ([] : List ByteArray), bt459.2))))) else (some (x447000, x447001, x447002, bt457.2))))
def spec_l20Place.f (k : Nat) (s0_0 : List Int) (s0_1 : Int) (a1 : Int) : Option (Int × List Int × List ByteArray × Int) := (spec_l20House.f k s0_0 s0_1 0).bind fun bt441 => ((spec_l20Rd_pick.f k s0_0 bt441.2.2 3).bind fun bt447 => (spec_l20Place.l0 k a1 (wrap64 (1 + bt447.1)) s0_0 bt447.2 bt441.1 bt441.2.1 ([] : List ByteArray)))
def spec_l20Place.T5 : Bool × List (List Nat × List Nat) := (true, [([], []), ([0], [0]), ([], []), ([2], [2]), ([], []), ([], []), ([5], [5]), ([4, 6], [4, 6]), ([3, 7, 7], [3, 7]), ([8], [8]), ([1, 9, 8], [1, 9]), ([0, 1, 2, 3, 4, 5, 6, 7, 8, 9, 10], []), ([11, 10, 10, 0, 1, 2, 3, 4, 5, 6, 7, 8, 9, 10], [10, 11])])
def spec_l20Place.B5 : List Nat := [0, 1, 0, 4, 0, 0, 32, 112, 252, 508, 1023, 2047, 4095]
theorem spec_l20Place.tab5 : rtab .any (opsOf Tryd.f28 5) = spec_l20Place.T5 := by kernel_rfl
theorem spec_l20Place.bits5 : waitsOk spec_l20Place.T5.2 spec_l20Place.B5 = true := by kernel_rfl
set_option maxHeartbeats 8000000 in
set_option maxRecDepth 100000 in
theorem spec_l20Place.calls (k : Nat) (g : Nat) (s0_0 : List Int) (s0_1 : Int) (a1 : Int) (r1 : Int) (r2 : List Int) (r3 : List ByteArray) (r4 : Int) (w0 w : World) (hI : IsS63 w0 w g s0_0 s0_1) (hB : Below w0.heap.size w0 w) (h : spec_l20Place.f k s0_0 s0_1 a1 = some (r1, r2, r3, r4)) :
    Calls Tryd.prog 28 #[.pointer (some ⟨g, 0, none⟩), .int .i64 a1] w fun e w' => ∃ v1_ v2_ : Value, e = .returned (.agg #[.int .i64 r1, v1_, v2_]) ∧ Kd.R (Kd.int .i64) 3 w' w.heap.size (fun _ => True) v1_ r2 ∧ Kd.R Kd.string 9 w' w.heap.size (fun _ => True) v2_ r3 ∧ IsS63 w0 w' g s0_0 r4 ∧ Below w0.heap.size w0 w' ∧ KeepBut w w' g none := by
 have hu50 := Tryd.underlying50
 have hu47 := Tryd.underlying47
 have HI0 := Aside0.mk hI
 have HK := Aside0.mk (KeepBut.refl w g none)
 have HL := Aside0.mk hB.size
 clear hI
 have HW0 := Aside0.mk hB.size
 have HB := Aside0.mk hB
 clear hB
 have H : ((spec_l20House.f k s0_0 s0_1 0).bind fun bt441 => ((spec_l20Rd_pick.f k s0_0 bt441.2.2 3).bind fun bt447 => (spec_l20Place.l0 k a1 (wrap64 (1 + bt447.1)) s0_0 bt447.2 bt441.1 bt441.2.1 ([] : List ByteArray)))) = some (r1, r2, r3, r4) := h
 clear h
 replace H := Option.bind_eq_some_iff.mp H
 obtain ⟨⟨t441, t442, t445⟩, A30, H⟩ := H
 try dsimp only at H
 have A3 := Aside0.mk A30
 clear A30
 replace H := Option.bind_eq_some_iff.mp H
 obtain ⟨⟨t447, t448⟩, A40, H⟩ := H
 try dsimp only at H
 have A4 := Aside0.mk A40
 clear A40
 have H' := Aside0.mk H
 clear H
 go_enter Tryd.func28, Tryd.ntmps28
 go_wp2_with (first | ((with_reducible refine gate_dst (N := 4) rfl ?_); refine box_event ?hg (N := 4) ?hd (cs := #[.int .i64 0, .slice none 0 0, .slice none 0 0]) (t := 50) ?hr ?_; (case hd => rfl); (case hg => rfl); (case hr => exact zcj_12); intro gb440 hg w5 hbox hb; have n0_ := Aside0.mk (IsS63.below zcj_25 hb); have n1_ := Aside0.mk (KeepBut.trans zcj_17 (KeepBut.of_below hb g none) (.inl rfl)); have n2_ := Aside0.mk (below_step zcj_26 hb); have n3_ := Aside0.mk (hbox); have n4_ := Aside0.mk ((zcj_46 : w.heap.size ≤ gb440)); have n5_ := Aside0.mk ((Nat.le_trans HW0.out (zcj_46 : w.heap.size ≤ gb440) : w0.heap.size ≤ gb440)); have n6_ := Aside0.mk ((zcj_84 : g ≠ gb440)); have n7_ := Aside0.mk ((zcj_85 : gb440 ≠ g)); clear HI0; clear HK; clear HB; have HI0 := n0_; have HK := n1_; have HB := n2_; have BK440 := n3_; have GW440 := n4_; have GE440 := n5_; have NB0_440 := n6_; have NB440_0 := n7_; clear n0_ n1_ n2_ n3_ n4_ n5_ n6_ n7_; clear hb hbox hg) | ((with_reducible refine gate_callee (f := 43) rfl ?_); refine goesL_ (some 8) rfl rfl Tryd.func43 (by kernel_rfl) rfl #[.pointer (some ⟨g, 0, none⟩), .int .i64 0] rfl zcj_3 ?_; (with_reducible refine (spec_l20House.calls k g s0_0 s0_1 0 t441 t442 t445 w0 _ ?side1 ?side2 A3.out).mono ?_); (case side1 => exact zcj_163); (case side2 => exact zcj_164); rintro e w6 ⟨v443, rfl, ho0, hi, hb, hk⟩; refine ⟨_, rfl, ?_⟩; have n0_ := Aside0.mk (KeepBut.blk hk (g' := gb440) (o := .cells #[.int .i64 0, .slice none 0 0, .slice none 0 0] 50 (0, 0)) zcj_42 NB440_0.out (by simp)); have n1_ := Aside0.mk (Kd.R_lower ho0 (keep_size (w := w) (g := g) (row := none) zcj_88)); have n2_ := Aside0.mk (KeepBut.trans zcj_88 hk (.inl rfl)); have n3_ := Aside0.mk (hb); have n4_ := Aside0.mk (hi); clear BK440; clear HK; clear HB; clear HI0; have BK440 := n0_; have HO444 := n1_; have HK := n2_; have HB := n3_; have HI0 := n4_; clear n0_ n1_ n2_ n3_ n4_; (try clear hb); (try clear hb2); (try clear hk); (try clear hi); (try clear ho0); obtain ⟨Ao7, co7, eo7⟩ := Kd.R_slice HO444.out; subst eo7) | ((with_reducible refine gate_dst (N := 5) rfl ?_); refine box_event ?hg (N := 5) ?hd (cs := #[.int .i64 0, .slice none 0 0, .slice none 0 0]) (t := 50) ?hr ?_; (case hd => rfl); (case hg => rfl); (case hr => exact zcj_12); intro gb446 hg w8 hbox hb; have n0_ := Aside0.mk (Kd.R_below zcj_165 hb); have n1_ := Aside0.mk (IsS63.below zcj_163 hb); have n2_ := Aside0.mk (blk_below (g := gb440) (o := .cells #[.int .i64 0, .slice none 0 0, .slice none 0 0] 50 (0, 0)) zcj_42 hb); have n3_ := Aside0.mk (KeepBut.trans zcj_88 (KeepBut.of_below hb g none) (.inl rfl)); have n4_ := Aside0.mk (below_step zcj_164 hb); have n5_ := Aside0.mk (hbox); have n6_ := Aside0.mk ((zcj_166 : w.heap.size ≤ gb446)); have n7_ := Aside0.mk ((Nat.le_trans HW0.out (zcj_166 : w.heap.size ≤ gb446) : w0.heap.size ≤ gb446)); have n8_ := Aside0.mk ((by rw [hg]; exact Nat.ne_of_lt (blk_lt (g := gb440) (o := .cells #[.int .i64 0, .slice none 0 0, .slice none 0 0] 50 (0, 0)) zcj_42) : gb440 ≠ gb446)); have n9_ := Aside0.mk ((by rw [hg]; exact Nat.ne_of_gt (blk_lt (g := gb440) (o := .cells #[.int .i64 0, .slice none 0 0, .slice none 0 0] 50 (0, 0)) zcj_42) : gb446 ≠ gb440)); have n10_ := Aside0.mk ((by rw [hg]; exact Nat.ne_of_lt (IsS63.lt (show IsS63 w0 _ g s0_0 t445 from by repeat (first | (with_reducible first | exact HI0.out | apply IsS63.alloc | apply IsS63.drewN | apply IsS63.drew | apply IsS63.set_1 | refine IsS63.far ?_ NB0_440.out _) | exact HI0.out))) : g ≠ gb446)); have n11_ := Aside0.mk ((by rw [hg]; exact Nat.ne_of_gt (IsS63.lt (show IsS63 w0 _ g s0_0 t445 from by repeat (first | (with_reducible first | exact HI0.out | apply IsS63.alloc | apply IsS63.drewN | apply IsS63.drew | apply IsS63.set_1 | refine IsS63.far ?_ NB0_440.out _) | exact HI0.out))) : gb446 ≠ g)); clear HO444; clear HI0; clear BK440; clear HK; clear HB; have HO444 := n0_; have HI0 := n1_; have BK440 := n2_; have HK := n3_; have HB := n4_; have BK446 := n5_; have GW446 := n6_; have GE446 := n7_; have NB440_446 := n8_; have NB446_440 := n9_; have NB0_446 := n10_; have NB446_0 := n11_; clear n0_ n1_ n2_ n3_ n4_ n5_ n6_ n7_ n8_ n9_ n10_ n11_; clear hb hbox hg; have hnb9 := NB446_440.out; have hnc9 := NB440_446.out; have hnb10 := NB446_0.out; have hnc10 := NB0_446.out; have hcz11_0 : w8.cell? ⟨gb446, 0, none⟩ = some (.int .i64 0) := (blk_cell BK446.out 0).trans rfl; have hcz11_1 : w8.cell? ⟨gb446, 1, none⟩ = some (.slice none 0 0) := (blk_cell BK446.out 1).trans rfl; have hcz11_2 : w8.cell? ⟨gb446, 2, none⟩ = some (.slice none 0 0) := (blk_cell BK446.out 2).trans rfl; have hfz11_0 := blk_frozen BK446.out 0; have hfz11_1 := blk_frozen BK446.out 1; have hfz11_2 := blk_frozen BK446.out 2) | ((with_reducible refine gate_callee (f := 34) rfl ?_); refine goesL_ (some 11) rfl rfl Tryd.func34 (by kernel_rfl) rfl #[.pointer (some ⟨g, 0, none⟩), .int .i64 3] rfl zcj_3 ?_; (with_reducible refine (spec_l20Rd_pick.calls k g s0_0 t445 3 t447 t448 w0 _ ?side1 ?side2 A4.out).mono ?_); (case side1 => exact zcj_30); (case side2 => exact zcj_34); rintro e w12 ⟨rfl, hi, hb, hk⟩; refine ⟨_, rfl, ?_⟩; have n0_ := Aside0.mk (KeepBut.blk hk (g' := gb440) (o := .cells #[.int .i64 0, .slice none 0 0, .slice none 0 0] 50 (0, 0)) (by (with_reducible repeat (first | refine blk_drewN ?_ _ | refine blk_drew ?_ | refine blk_alloc ?_ _)); refine blk_far ?_ NB440_446.out _; (with_reducible repeat (first | refine blk_drewN ?_ _ | refine blk_drew ?_ | refine blk_alloc ?_ _)); refine blk_far ?_ NB440_446.out _; (with_reducible repeat (first | refine blk_drewN ?_ _ | refine blk_drew ?_ | refine blk_alloc ?_ _)); refine blk_far ?_ NB440_446.out _; (with_reducible repeat (first | refine blk_drewN ?_ _ | refine blk_drew ?_ | refine blk_alloc ?_ _)); exact BK440.out) NB440_0.out (by simp)); have n1_ := Aside0.mk (Kd.R_mono (Kd.R_keep (IsS63.apart (show IsS63 w0 _ g s0_0 t445 from by repeat (first | (with_reducible first | exact HI0.out | apply IsS63.alloc | apply IsS63.drewN | apply IsS63.drew | apply IsS63.set_1 | refine IsS63.far ?_ NB0_440.out _ | refine IsS63.far ?_ NB0_446.out _) | exact HI0.out)) (by (with_reducible repeat (first | apply Kd.R_alloc | apply Kd.R_drewN | apply Kd.R_drew)); exact (Kd.R_mono (Kd.R_far (p := ⟨gb446, 2, none⟩) (Kd.R_far (p := ⟨gb446, 1, none⟩) (Kd.R_far (p := ⟨gb446, 0, none⟩) (Kd.R_types HO444.out BK446.out (by decide)) (fun _ hk => hk.2) (.int .i64 t441)) (fun _ hk => hk.2) (.slice Ao7 t442.length co7)) (fun _ hk => hk.2) (.slice none 0 0)) (fun _ h_ => h_.1))) (by decide)) hk (fun _ h => h.2)) (fun _ h => h.1)); have n2_ := Aside0.mk (KeepBut.blk hk (g' := gb446) (o := .cells #[.int .i64 t441, .slice Ao7 t442.length co7, .slice none 0 0] 50 (0, 0)) (by (with_reducible repeat (first | refine blk_drewN ?_ _ | refine blk_drew ?_ | refine blk_alloc ?_ _)); refine blk_put (cs := #[.int .i64 t441, .slice Ao7 t442.length co7, .slice none 0 0]) ?_ 2 _ rfl; (with_reducible repeat (first | refine blk_drewN ?_ _ | refine blk_drew ?_ | refine blk_alloc ?_ _)); refine blk_put (cs := #[.int .i64 t441, .slice none 0 0, .slice none 0 0]) ?_ 1 _ rfl; (with_reducible repeat (first | refine blk_drewN ?_ _ | refine blk_drew ?_ | refine blk_alloc ?_ _)); refine blk_put (cs := #[.int .i64 0, .slice none 0 0, .slice none 0 0]) ?_ 0 _ rfl; (with_reducible repeat (first | refine blk_drewN ?_ _ | refine blk_drew ?_ | refine blk_alloc ?_ _)); exact BK446.out) NB446_0.out (by simp)); have n3_ := Aside0.mk (KeepBut.trans zcj_35 hk (.inl rfl)); have n4_ := Aside0.mk (hb); have n5_ := Aside0.mk (hi); clear BK440; clear HO444; clear BK446; clear HK; clear HB; clear HI0; have BK440 := n0_; have HO444 := n1_; have BK446 := n2_; have HK := n3_; have HB := n4_; have HI0 := n5_; clear n0_ n1_ n2_ n3_ n4_ n5_; (try clear hb); (try clear hb2); (try clear hk); (try clear hi)))
 go_loopg [6] k (fun kq v6 w' => ∃ (x6_1 : Int) (x1001_1 : Int) (x447002_1 : List ByteArray) (u447002 : Value), v6 = .int .i64 x6_1 ∧ Aside0 (spec_l20Place.l0 kq a1 x6_1 s0_0 x1001_1 t441 t442 x447002_1 = some (r1, r2, r3, r4)) ∧ Aside0 (kq ≤ k) ∧ Aside0 (Kd.R (Kd.int .i64) 3 w' w.heap.size (fun _ => True) (.slice Ao7 t442.length co7) t442) ∧ Aside0 (Kd.R Kd.string 9 w' w.heap.size (fun _ => True) u447002 x447002_1) ∧ Aside0 (w'.heap[gb440]? = some (.cells #[.int .i64 0, (.slice none 0 0), (.slice none 0 0)] 50 (0, 0))) ∧ Aside0 (w'.heap[gb446]? = some (.cells #[.int .i64 t441, (.slice Ao7 t442.length co7), u447002] 50 (0, 0))) ∧ Aside0 (IsS63 w0 w' g s0_0 x1001_1) ∧ Aside0 (KeepBut w w' g none) ∧ Aside0 (Below w0.heap.size w0 w'))
 case atStart => exact ⟨(wrap64 (1 + t447)), (t448), (([] : List ByteArray)), (.slice none 0 0), zcj_4, H', ⟨Nat.le_refl _⟩, ⟨zcj_165⟩, ⟨zcj_104⟩, ⟨zcj_42⟩, ⟨zcj_56⟩, ⟨zcj_30⟩, ⟨zcj_35⟩, ⟨zcj_34⟩⟩
 case round =>(
 clear H'
 try clear c1
 try clear c2
 try clear p2
 try clear c3
 try clear c4
 try clear p6
 try clear c9
 try clear c10
 try clear hcz11_0
 try clear hcz11_1
 try clear hcz11_2
 try clear hfz11_0
 try clear hfz11_1
 try clear hfz11_2
 obtain ⟨x6_1, x1001_1, x447002_1, u447002, rfl, HA, HK1, HO_447001, HO_447002, BK440, BK446, HI0, HK, HB⟩ := hrel
 cases gk with
 | zero => exact absurd HA.out (by simp [spec_l20Place.l0])
 | succ k1 =>(
 have H := HA.out
 clear HA
 simp only [spec_l20Place.l0] at H
 by_cases c13 : x6_1 > 0
 {
 rw [if_pos c13] at H
 have c13b0 : decide (0 < x6_1) = true := decide_eq_true c13
 clear c13
 replace H := Option.bind_eq_some_iff.mp H
 obtain ⟨⟨t449, t452⟩, A140, H⟩ := H
 try dsimp only at H
 have A14 := Aside0.mk A140
 clear A140
 replace H := Option.bind_eq_some_iff.mp H
 obtain ⟨t453, A150, H⟩ := H
 try dsimp only at H
 have A15 := Aside0.mk A150
 clear A150
 by_cases c16 : x447002_1.length < 8796093022208
 {
 rw [if_pos c16] at H
 have LMc16 := Aside0.mk c16
 clear c16
 obtain ⟨y454, hy454⟩ : ∃ y_ : List ByteArray, y_ = (x447002_1 ++ [t453]) := ⟨_, rfl⟩
 replace H : (spec_l20Place.l0 k1 a1 (wrap64 (x6_1 - 1)) s0_0 t452 t441 t442 y454) = some (r1, r2, r3, r4) := by first | (rw [hy454]; with_reducible exact H) | (have H2_ := (Option.bind_some _ _).symm.trans H; rw [hy454]; with_reducible exact H2_) | (have H2_ := (Option.bind_some _ _).symm.trans H; with_reducible exact H2_) | with_reducible exact H | (rw [hy454]; exact H) | exact H
 have Ny454 := Aside0.mk hy454
 clear hy454
 have H' := Aside0.mk H
 clear H
 try go_wp2
 have n0_ := Aside0.mk (Kd.R_drew HO_447001.out)
 have n1_ := Aside0.mk (Kd.R_drew HO_447002.out)
 have n2_ := Aside0.mk (blk_drew BK440.out)
 have n3_ := Aside0.mk (blk_drew BK446.out)
 have n4_ := Aside0.mk (IsS63.drew HI0.out)
 have n5_ := Aside0.mk (keep_drew HK.out)
 have n6_ := Aside0.mk (below_drew1 HB.out)
 clear HO_447001
 clear HO_447002
 clear BK440
 clear BK446
 clear HI0
 clear HK
 clear HB
 have HO_447001 := n0_
 have HO_447002 := n1_
 have BK440 := n2_
 have BK446 := n3_
 have HI0 := n4_
 have HK := n5_
 have HB := n6_
 clear n0_ n1_ n2_ n3_ n4_ n5_ n6_
 refine start_ (n := 13) (S := fun w' => w'.cell? ⟨gb446, 0, none⟩ = some (.int .i64 t441) ∧ w'.cell? ⟨gb446, 1, none⟩ = some (.slice Ao7 t442.length co7) ∧ w'.cell? ⟨gb446, 2, none⟩ = some (u447002)) (ds := [12]) #[false, false, false, false, false, false, false, false, false, false, false, false, false] (by kernel_rfl) rfl rfl ⟨(blk_cell BK446.out 0).trans rfl, (blk_cell BK446.out 1).trans rfl, (blk_cell BK446.out 2).trans rfl⟩ (fun hHeld => ?_); refine with_tabW spec_l20Place.tab5 spec_l20Place.bits5 (fun HT_ HW_ => ?_)
 generalize wr.drew = w17 at HO_447001 HO_447002 BK440 BK446 HI0 HK HB hHeld ⊢
 refine pure_ (i := 0) (N := some 17) (v := ?_) (a' := ?_) #[true, false, false, false, false, false, false, false, false, false, false, false, false] rfl rfl (any_of HT_.out (by kernel_rfl)) (fun _ _ _ h => h) (Or.inl ⟨by rfl, ?_⟩) ?_ ?_
 rotate_left
 {
 intro w'
 go_simp
 with_reducible rfl
 }
 rotate_left
 {exact zcj_1}
 refine pure_ (i := 2) (N := some 19) (v := ?_) (a' := ?_) #[true, false, true, false, false, false, false, false, false, false, false, false, false] rfl rfl (any_of HT_.out (by kernel_rfl)) (fun _ _ _ h => h) (Or.inl ⟨by rfl, ?_⟩) ?_ ?_
 rotate_left
 {
 intro w'
 go_simp
 with_reducible rfl
 }
 rotate_left
 {exact zcj_1}
 refine pure_ (i := 4) (N := some 21) (v := ?_) (a' := ?_) #[true, false, true, false, true, false, false, false, false, false, false, false, false] rfl rfl (any_of HT_.out (by kernel_rfl)) (fun _ _ _ h => h) (Or.inl ⟨by rfl, ?_⟩) ?_ ?_
 rotate_left
 {
 intro w'
 go_simp
 with_reducible rfl
 }
 rotate_left
 {exact zcj_1}
 refine pure_ (i := 5) (N := some 22) (v := ?_) (a' := ?_) #[true, false, true, false, true, true, false, false, false, false, false, false, false] rfl rfl (any_of HT_.out (by kernel_rfl)) (fun _ _ _ h => h) (Or.inl ⟨by rfl, ?_⟩) ?_ ?_
 rotate_left
 {
 intro w'
 go_simp
 with_reducible rfl
 }
 rotate_left
 {exact zcj_1}
 refine take_ (i := 1) (N := some 18) (v := ?_) (a' := ?_) #[true, true, true, false, true, true, false, false, false, false, false, false, false] rfl rfl (take_ofW HT_.out HW_.out (by kernel_rfl)) (fun _ _ _ h => h) (Or.inl ⟨by rfl, ?_⟩) hHeld ?_ ?_
 rotate_left
 {
 rintro w' ⟨s0, s1, s2⟩
 go_simp
 with_reducible rfl
 }
 rotate_left
 {exact zcj_1}
 refine take_ (i := 3) (N := some 20) (v := ?_) (a' := ?_) #[true, true, true, true, true, true, false, false, false, false, false, false, false] rfl rfl (take_ofW HT_.out HW_.out (by kernel_rfl)) (fun _ _ _ h => h) (Or.inl ⟨by rfl, ?_⟩) hHeld ?_ ?_
 rotate_left
 {
 rintro w' ⟨s0, s1, s2⟩
 go_simp
 with_reducible rfl
 }
 rotate_left
 {exact zcj_1}
 refine take_ (i := 6) (N := some 23) (v := ?_) (a' := ?_) #[true, true, true, true, true, true, true, false, false, false, false, false, false] rfl rfl (take_ofW HT_.out HW_.out (by kernel_rfl)) (fun _ _ _ h => h) (Or.inl ⟨by rfl, ?_⟩) hHeld ?_ ?_
 rotate_left
 {
 rintro w' ⟨s0, s1, s2⟩
 go_simp
 with_reducible rfl
 }
 rotate_left
 {exact zcj_1}
 refine one_ (i := 7) (N := some 24) #[true, true, true, true, true, true, true, true, false, false, false, false, false] rfl rfl (one_of HT_.out (by kernel_rfl)) (by decide) (fun K hK => ?_)
 refine goes_ Tryd.func42 (by kernel_rfl) rfl #[.pointer (some ⟨g, 0, none⟩), .agg #[.int .i64 t441, .slice Ao7 t442.length co7], .int .i64 0] (by rfl) rfl rfl zcj_3 ?_
 with_reducible refine (spec_l20Term.calls k1 g s0_0 x1001_1 t441 _ _ t442 0 t449 t452 w0 _ ?side1 ?side2 ?side3 ?side4 ?side5 A14.out).mono ?_
 (case side1 => exact zcj_30)
 (case side2 => exact zcj_34)
 (case side3 => exact zcj_167)
 (case side4 => exact (Kd.R_reads' HO_447001.out).2.1)
 (case side5 => exact far_slice (IsS63.own_ne HI0.out HO_447001.out (by decide)))
 rintro e w18 ⟨v450, rfl, ho0, hi, hb, hk⟩
 refine ⟨_, rfl, ?_⟩
 have n0_ := Aside0.mk (Kd.R_mono (Kd.R_keep (IsS63.apart (show IsS63 w0 _ g s0_0 x1001_1 from by repeat (first | (with_reducible first | exact HI0.out | apply IsS63.alloc | apply IsS63.drewN | apply IsS63.drew | apply IsS63.set_1 | refine IsS63.far ?_ NB0_440.out _ | refine IsS63.far ?_ NB0_446.out _) | exact HI0.out)) zcj_64 (by decide)) hk (fun _ h => h.2)) (fun _ h => h.1))
 have n1_ := Aside0.mk (Kd.R_mono (Kd.R_keep (IsS63.apart (show IsS63 w0 _ g s0_0 x1001_1 from by repeat (first | (with_reducible first | exact HI0.out | apply IsS63.alloc | apply IsS63.drewN | apply IsS63.drew | apply IsS63.set_1 | refine IsS63.far ?_ NB0_440.out _ | refine IsS63.far ?_ NB0_446.out _) | exact HI0.out)) zcj_65 (by decide)) hk (fun _ h => h.2)) (fun _ h => h.1))
 have n2_ := Aside0.mk (KeepBut.blk hk (g' := gb440) (o := .cells #[.int .i64 0, .slice none 0 0, .slice none 0 0] 50 (0, 0)) zcj_42 NB440_0.out (by simp))
 have n3_ := Aside0.mk (KeepBut.blk hk (g' := gb446) (o := .cells #[.int .i64 t441, .slice Ao7 t442.length co7, u447002] 50 (0, 0)) zcj_56 NB446_0.out (by simp))
 have n4_ := Aside0.mk (Kd.V_lower (Kd.V_mono (ok' := fun k_ => some k_ ≠ (.slice Ao7 t442.length co7 : Value).ownBlock ∧ some k_ ≠ (u447002 : Value).ownBlock ∧ k_ ≠ gb440 ∧ k_ ≠ gb446 ∧ k_ ≠ g) ho0 (fun k_ hk_ => ⟨(Kd.fresh' (Kd.R_lt zcj_64) k_ hk_), (Kd.fresh' (Kd.R_lt zcj_65) k_ hk_), (Kd.freshB (g := gb440) (o := .cells #[.int .i64 0, .slice none 0 0, .slice none 0 0] 50 (0, 0)) zcj_42 k_ hk_), (Kd.freshB (g := gb446) (o := .cells #[.int .i64 t441, .slice Ao7 t442.length co7, u447002] 50 (0, 0)) zcj_56 k_ hk_), (IsS63.fresh zcj_30 k_ hk_)⟩)) (keep_size (w := w) (g := g) (row := none) zcj_35))
 have n5_ := Aside0.mk (KeepBut.trans zcj_35 hk (.inl rfl))
 have n6_ := Aside0.mk (hb)
 have n7_ := Aside0.mk (hi)
 clear HO_447001
 clear HO_447002
 clear BK440
 clear BK446
 clear HK
 clear HB
 clear HI0
 have HO_447001 := n0_
 have HO_447002 := n1_
 have BK440 := n2_
 have BK446 := n3_
 have HO451 := n4_
 have HK := n5_
 have HB := n6_
 have HI0 := n7_
 clear n0_ n1_ n2_ n3_ n4_ n5_ n6_ n7_
 (try clear hb)
 (try clear hb2)
 (try clear hk)
 (try clear hi)
 (try clear ho0)
 obtain ⟨Ao19, co19, eo19⟩ := Kd.V_slice HO451.out
 (first | subst eo19 | (injection eo19 with f1_ f2_ f3_; have f4_ := f1_.symm; have f5_ := f3_.symm; clear f1_ f2_ f3_; subst f4_; subst f5_))
 refine hK.out _ _ ⟨(blk_cell BK446.out 0).trans rfl, (blk_cell BK446.out 1).trans rfl, (blk_cell BK446.out 2).trans rfl⟩ (fun hHeld => ?_)
 clear hK K
 refine norm_ (a' := ?_) ?_ ?_
 rotate_left
 {exact zcj_95}
 refine one_ (i := 8) (N := some 25) #[true, true, true, true, true, true, true, true, true, false, false, false, false] rfl rfl (one_of HT_.out (by kernel_rfl)) (by decide) (fun K hK => ?_)
 refine goes_ Tryd.func41 (by kernel_rfl) rfl #[.agg #[.int .i64 t441, .slice Ao7 t442.length co7], .slice Ao19 t449.length co19] (by rfl) rfl rfl zcj_3 ?_
 with_reducible refine (spec_TermText.calls k1 t441 _ _ t442 _ _ t449 t453 _ ?side1 ?side2 ?side3 ?side4 A15.out).mono ?_
 (case side1 => exact zcj_167)
 (case side2 => exact (Kd.R_reads' HO_447001.out).2.1)
 (case side3 => repeat (first | exact (Kd.V_reads' HO451.out).2.2 | (with_reducible refine Kd.C_alloc ?_ _) | (with_reducible refine Kd.C_drewN ?_ _) | (with_reducible refine Kd.C_drew ?_)))
 (case side4 => exact (Kd.V_reads' HO451.out).2.1)
 rintro e w20 ⟨rfl, hb⟩
 refine ⟨_, rfl, ?_⟩
 have n0_ := Aside0.mk (Kd.R_below zcj_64 hb)
 have n1_ := Aside0.mk (Kd.R_below zcj_65 hb)
 have n2_ := Aside0.mk (Kd.V_below (by (with_reducible repeat (first | apply Kd.V_alloc | apply Kd.V_drewN | apply Kd.V_drew)); exact HO451.out) hb)
 have n3_ := Aside0.mk (blk_below (g := gb440) (o := .cells #[.int .i64 0, .slice none 0 0, .slice none 0 0] 50 (0, 0)) zcj_42 hb)
 have n4_ := Aside0.mk (blk_below (g := gb446) (o := .cells #[.int .i64 t441, .slice Ao7 t442.length co7, u447002] 50 (0, 0)) zcj_56 hb)
 have n5_ := Aside0.mk (IsS63.below zcj_30 hb)
 have n6_ := Aside0.mk (KeepBut.trans zcj_35 (KeepBut.of_below hb g none) (.inl rfl))
 have n7_ := Aside0.mk (below_step zcj_34 hb)
 clear HO_447001
 clear HO_447002
 clear HO451
 clear BK440
 clear BK446
 clear HI0
 clear HK
 clear HB
 have HO_447001 := n0_
 have HO_447002 := n1_
 have HO451 := n2_
 have BK440 := n3_
 have BK446 := n4_
 have HI0 := n5_
 have HK := n6_
 have HB := n7_
 clear n0_ n1_ n2_ n3_ n4_ n5_ n6_ n7_
 (try clear hb)
 (try clear hb2)
 (try clear hk)
 (try clear hi)
 refine hK.out _ _ ⟨(blk_cell BK446.out 0).trans rfl, (blk_cell BK446.out 1).trans rfl, (blk_cell BK446.out 2).trans rfl⟩ (fun hHeld => ?_)
 clear hK K
 refine norm_ (a' := ?_) ?_ ?_
 rotate_left
 {show Act.put _ (some 25) _ = _; simp only [Act.put, List.setIfInBounds_toArray, List.set_cons_zero, List.set_cons_succ, i64_w, i32_w]; rfl}
 refine one_ (i := 9) (N := some 26) #[true, true, true, true, true, true, true, true, true, true, false, false, false] rfl rfl (one_of HT_.out (by kernel_rfl)) (by decide) (fun K hK => ?_)
 refine value_ (w1 := ?_) (v := ?_) (by rfl) rfl ?_ ?_
 rotate_left 2
 {
 go_simp
 constructor
 {rfl}
 {rfl}
 }
 refine hK.out _ _ ⟨(blk_cell (blk_alloc BK446.out _) 0).trans rfl, (blk_cell (blk_alloc BK446.out _) 1).trans rfl, (blk_cell (blk_alloc BK446.out _) 2).trans rfl⟩ (fun hHeld => ?_)
 clear hK K
 refine norm_ (a' := ?_) ?_ ?_
 rotate_left
 {show Act.put _ (some 26) _ = _; simp only [Act.put, List.setIfInBounds_toArray, List.set_cons_zero, List.set_cons_succ, i64_w, i32_w]; rfl}
 refine one_ (i := 10) (N := some 27) #[true, true, true, true, true, true, true, true, true, true, true, false, false] rfl rfl (one_of HT_.out (by kernel_rfl)) (by decide) (fun K hK => ?_)
 refine Kd.R_append_step Kd.string w.heap.size (by rfl) (.tmp 18) (.tmp 26) 48 9 (.string ⟨#[]⟩) 16 rfl Tryd.underlying48 info9 rfl (by decide) (by omega) u447002 x447002_1 t453 [.string t453] (fun _ => True) (fun _ => False) rfl rfl ?aP (fun _ hk => hk.elim) ?aF ?aO (Below.refl _ _) ?aS ?aL ?_
 (case aP => exact rfl)
 (case aF => exact zcj_87)
 (case aO => exact zcj_65)
 (case aS => exact (keep_size (w := w) (g := g) (row := none) zcj_35))
 (case aL => have := LMc16.out; omega)
 intro v455 w21 ho hb hg hat
 rw [← Ny454.out] at ho
 have n0_ := Aside0.mk (Kd.R_over' zcj_64 (Kd.R_typed zcj_65) (by decide) hg)
 have n1_ := Aside0.mk (blk_grown (g := gb440) (o := .cells #[.int .i64 0, .slice none 0 0, .slice none 0 0] 50 (0, 0)) zcj_42 hg (Kd.R_ne HO_447002.out BK440.out (by decide)))
 have n2_ := Aside0.mk (blk_grown (g := gb446) (o := .cells #[.int .i64 t441, .slice Ao7 t442.length co7, u447002] 50 (0, 0)) zcj_56 hg (Kd.R_ne HO_447002.out BK446.out (by decide)))
 have n3_ := Aside0.mk (IsS63.grown zcj_30 hg (IsS63.own_ne HI0.out HO_447002.out (by decide)))
 have n4_ := Aside0.mk (Kd.V_afterv (ok := (fun k_ => some k_ ≠ (.slice Ao7 t442.length co7 : Value).ownBlock ∧ k_ ≠ gb440 ∧ k_ ≠ gb446 ∧ k_ ≠ g)) (by (with_reducible repeat (first | apply Kd.V_alloc | apply Kd.V_drewN | apply Kd.V_drew)); exact Kd.V_mono HO451.out (fun _ hk => ⟨⟨hk.1, ⟨hk.2.2.1, ⟨hk.2.2.2.1, hk.2.2.2.2⟩⟩⟩, hk.2.1⟩)) hg hat)
 have n5_ := Aside0.mk (below_weaken zcj_34 HL.out hb)
 have n6_ := Aside0.mk (KeepBut.trans zcj_35 (KeepBut.of_grown hg g) (Kd.R_base2 HO_447002.out))
 have n7_ := Aside0.mk (ho)
 clear HO_447001
 clear BK440
 clear BK446
 clear HI0
 clear HO451
 clear HB
 clear HK
 clear HO_447002
 have HO_447001 := n0_
 have BK440 := n1_
 have BK446 := n2_
 have HI0 := n3_
 have HO451 := n4_
 have HB := n5_
 have HK := n6_
 have HO456 := n7_
 clear n0_ n1_ n2_ n3_ n4_ n5_ n6_ n7_
 clear ho hb hg hat
 obtain ⟨Ao22, co22, eo22⟩ := Kd.R_slice HO456.out
 (first | subst eo22 | (injection eo22 with f1_ f2_ f3_; have f4_ := f1_.symm; have f5_ := f3_.symm; clear f1_ f2_ f3_; subst f4_; subst f5_))
 refine hK.out _ _ ⟨(blk_cell BK446.out 0).trans rfl, (blk_cell BK446.out 1).trans rfl, (blk_cell BK446.out 2).trans rfl⟩ (fun hHeld => ?_)
 clear hK K
 refine norm_ (a' := ?_) ?_ ?_
 rotate_left
 {show Act.put _ (some 27) _ = _; simp only [Act.put, List.setIfInBounds_toArray, List.set_cons_zero, List.set_cons_succ, i64_w, i32_w]; rfl}
 refine pure_ (i := 11) (N := some 28) (v := ?_) (a' := ?_) #[true, true, true, true, true, true, true, true, true, true, true, true, false] rfl rfl (any_of HT_.out (by kernel_rfl)) (fun _ _ _ h => h) (Or.inl ⟨by rfl, ?_⟩) ?_ ?_
 rotate_left
 {
 intro w'
 go_simp
 with_reducible rfl
 }
 rotate_left
 {exact zcj_1}
 refine last_ (i := 12) (N := none) #[true, true, true, true, true, true, true, true, true, true, true, true, true] rfl rfl (one_of HT_.out (by kernel_rfl)) (by decide) (fun K hK => ?_)
 have hs23 : w21.cell? ⟨gb446, 2, none⟩ = some (u447002) := (blk_cell BK446.out 2).trans rfl
 have hfs23 := blk_frozen BK446.out 2
 have hns23_0 := NB440_446.out
 have hms23_0 := NB446_440.out
 refine skip_ (w1 := ?_) (by rfl) rfl ?_ ?_
 rotate_left
 {go_simp; rfl}
 refine hK.out _ _ ?_
 clear hK K
 refine done_ (done_of HT_.out (by kernel_rfl)) ?_
 try go_wp2
 go_roundg k1
 case measure => have := HK1.out; omega
 case rel => exact ⟨(wrap64 (x6_1 - 1)), (t452), (y454), (.slice Ao22 y454.length co22), zcj_4, H', ⟨by have := HK1.out; omega⟩, ⟨by (with_reducible repeat (first | apply Kd.R_alloc | apply Kd.R_drewN | apply Kd.R_drew)); exact Kd.R_mono (Kd.R_far (p := ⟨gb446, 2, none⟩) (Kd.R_types HO_447001.out BK446.out (by decide)) (fun _ hk => hk.2) (.slice Ao22 y454.length co22)) (fun _ hk => trivial)⟩, ⟨by (with_reducible repeat (first | apply Kd.R_alloc | apply Kd.R_drewN | apply Kd.R_drew)); exact Kd.R_mono (Kd.R_far (p := ⟨gb446, 2, none⟩) (Kd.R_types HO456.out BK446.out (by decide)) (fun _ hk => hk.2) (.slice Ao22 y454.length co22)) (fun _ hk => trivial)⟩, ⟨by (with_reducible repeat (first | refine blk_drewN ?_ _ | refine blk_drew ?_ | refine blk_alloc ?_ _)); refine blk_far ?_ NB440_446.out _; (with_reducible repeat (first | refine blk_drewN ?_ _ | refine blk_drew ?_ | refine blk_alloc ?_ _)); exact BK440.out⟩, ⟨by (with_reducible repeat (first | refine blk_drewN ?_ _ | refine blk_drew ?_ | refine blk_alloc ?_ _)); refine blk_put (cs := #[.int .i64 t441, .slice Ao7 t442.length co7, u447002]) ?_ 2 _ rfl; (with_reducible repeat (first | refine blk_drewN ?_ _ | refine blk_drew ?_ | refine blk_alloc ?_ _)); exact BK446.out⟩, ⟨zcj_30⟩, ⟨zcj_35⟩, ⟨zcj_34⟩⟩
 }
 {
 rw [if_neg c16] at H
 exact absurd H (by simp)
 }
 }
 {
 rw [if_neg c13] at H
 have c13b0 : decide (0 < x6_1) = false := decide_eq_false c13
 clear c13
 replace H := Option.bind_eq_some_iff.mp H
 obtain ⟨⟨t457, t458⟩, A240, H⟩ := H
 try dsimp only at H
 have A24 := Aside0.mk A240
 clear A240
 by_cases c25 : t457 = true
 {
 subst c25
 rw [if_pos rfl] at H
 replace H := Option.bind_eq_some_iff.mp H
 obtain ⟨⟨t459, t460⟩, A260, H⟩ := H
 try dsimp only at H
 have A26 := Aside0.mk A260
 clear A260
 by_cases c27 : t459 = 0
 {
 rw [if_pos c27] at H
 have c27b0 : (t459 == 0) = true := beq_iff_eq.mpr c27
 have c27b1 : (t459 != 0) = false := bne_eq_false_iff_eq.mpr c27
 clear c27
 by_cases c28 : 0 < (x447002_1.length : Int)
 {
 rw [if_pos c28] at H
 have c28b0 : decide (0 < (x447002_1.length : Int)) = true := decide_eq_true c28
 have c28b1 : decide (0 < x447002_1.length) = true := decide_eq_true (by omega)
 clear c28
 obtain ⟨y461, hy461⟩ : ∃ y_ : List ByteArray, y_ = (x447002_1.set (0 : Int).toNat (⟨#[40, 65, 49, 41]⟩ : ByteArray)) := ⟨_, rfl⟩
 replace H : (some (t441, t442, y461, t460)) = some (r1, r2, r3, r4) := by first | (rw [hy461]; with_reducible exact H) | (have H2_ := (Option.bind_some _ _).symm.trans H; rw [hy461]; with_reducible exact H2_) | (have H2_ := (Option.bind_some _ _).symm.trans H; with_reducible exact H2_) | with_reducible exact H | (rw [hy461]; exact H) | exact H
 have Ny461 := Aside0.mk hy461
 clear hy461
 simp only [Option.some.injEq, Prod.mk.injEq] at H
 obtain ⟨rfl, rfl, rfl, rfl⟩ := H
 go_wp2_with (first | ((with_reducible refine gate_callee (f := 39) rfl ?_); refine goesL_ (some 31) rfl rfl Tryd.func39 (by kernel_rfl) rfl #[.pointer (some ⟨g, 0, none⟩), .int .i64 a1] rfl zcj_3 ?_; (with_reducible refine (spec_l20Rd_odd.calls k1 g s0_0 x1001_1 a1 true t458 w0 _ ?side1 ?side2 A24.out).mono ?_); (case side1 => exact zcj_30); (case side2 => exact zcj_34); rintro e w30 ⟨rfl, hi, hb, hk⟩; refine ⟨_, rfl, ?_⟩; refine zcj_f8 ?_; clear HO_447001; clear HO_447002; clear BK440; clear BK446; clear HK; clear HB; clear HI0; intro HO_447001 HO_447002 BK440 BK446 HK HB HI0; (try clear hb); (try clear hb2); (try clear hk); (try clear hi)) | ((with_reducible refine gate_callee (f := 34) rfl ?_); refine goesL_ (some 33) rfl rfl Tryd.func34 (by kernel_rfl) rfl #[.pointer (some ⟨g, 0, none⟩), .int .i64 3] rfl zcj_3 ?_; (with_reducible refine (spec_l20Rd_pick.calls k1 g s0_0 t458 3 t459 t460 w0 _ ?side1 ?side2 A26.out).mono ?_); (case side1 => exact zcj_30); (case side2 => exact zcj_34); rintro e w31 ⟨rfl, hi, hb, hk⟩; refine ⟨_, rfl, ?_⟩; refine zcj_f15 ?_; clear HO_447001; clear HO_447002; clear BK440; clear BK446; clear HK; clear HB; clear HI0; intro HO_447001 HO_447002 BK440 BK446 HK HB HI0; (try clear hb); (try clear hb2); (try clear hk); (try clear hi); have hnb32 := NB446_440.out; have hnc32 := NB440_446.out; have hnb33 := NB446_0.out; have hnc33 := NB0_446.out; have hcz34_0 : w31.cell? ⟨gb446, 0, none⟩ = some (.int .i64 t441) := (blk_cell BK446.out 0).trans rfl; have hcz34_1 : w31.cell? ⟨gb446, 1, none⟩ = some (.slice Ao7 t442.length co7) := (blk_cell BK446.out 1).trans rfl; have hcz34_2 : w31.cell? ⟨gb446, 2, none⟩ = some (u447002) := (blk_cell BK446.out 2).trans rfl; have hfz34_0 := blk_frozen BK446.out 0; have hfz34_1 := blk_frozen BK446.out 1; have hfz34_2 := blk_frozen BK446.out 2; have p29 : 0 ≤ (0 : Int) := (by omega); have q29 : (0 : Int) < ((x447002_1.length : Int) : Int) := of_decide_eq_true zcj_2; have qi29 : (0 < x447002_1.length) = True := eq_true (by omega); obtain ⟨go29, co29, eo29, gb29, gl29, cl29, HG29⟩ := Kd.R_form HO_447002.out (by omega); (first | cases eo29 | (injection eo29 with ea_ en_ ec_; (first | subst ea_ | (injection ea_ with ea_; subst ea_)); subst ec_; clear en_)); have GB29 := Aside0.mk gb29; have GG29 := Aside0.mk HG29; clear gb29 gl29 HG29; obtain ⟨hx29_0, hf29_0⟩ := Kd.R_celln (⟨#[]⟩ : ByteArray) HO_447002.out (0 : Int) p29 q29; (try rw [show ((0 : Int)).toNat = 0 from rfl] at hx29_0); (try simp only [Nat.reduceMul, Nat.zero_mul, Nat.zero_add, Nat.reduceAdd] at hx29_0); (try rw [show ((0 : Int)).toNat = 0 from rfl] at hf29_0); (try simp only [Nat.reduceMul, Nat.zero_mul, Nat.zero_add, Nat.reduceAdd] at hf29_0); replace p29 := eq_true p29; replace q29 := eq_true q29; obtain ⟨hy35_, hz35_⟩ := Kd.R_celln (⟨#[]⟩ : ByteArray) HO_447002.out (0 : Int) (by omega) (of_decide_eq_true zcj_2); (try simp only [Int.reduceToNat, Int.toNat_zero, Int.toNat_ofNat, Nat.reduceMul, Nat.zero_mul, Nat.zero_add] at hy35_ hz35_); (try rw [show ((0 : Int)).toNat = 0 from rfl] at hy35_); (try rw [show ((0 : Int)).toNat = 0 from rfl] at hz35_); have HP35 := Kd.R_putg HO_447002.out (0 : Int) (⟨#[40, 65, 49, 41]⟩ : ByteArray)) | ((with_reducible refine gate_store (t := 9) (p := 39) rfl ?_); refine store_event (t := 9) (p := 39) (v := ?vo_w36) (w1 := (w31.setCell ⟨go29, (0 : Int).toNat, none⟩ (.string (⟨#[40, 65, 49, 41]⟩ : ByteArray)))) ?hg ?ho ?hn ?hr ?_; (case ho => rfl); (case hg => rfl); (case hn => rfl); (case hr => exact zcj_12); intro w36 hw; have hg : w31.grownBy w36 (some go29) := (by rw [hw]; exact HP35.2); have hp_ : Kd.R Kd.string 9 w36 w.heap.size (fun _ => True) (.slice (some ⟨go29, 0, none⟩) x447002_1.length co29) y461 := (by rw [hw, Ny461.out]; exact HP35.1); clear HP35; have n0_ := Aside0.mk (Kd.R_over' (v := (.slice (some ⟨go29, 0, none⟩) x447002_1.length co29)) zcj_64 (Kd.R_typed HO_447002.out) (by decide) hg); have n1_ := Aside0.mk (hp_); have n2_ := Aside0.mk (blk_grown (g := gb440) (o := .cells #[.int .i64 0, .slice none 0 0, .slice none 0 0] 50 (0, 0)) zcj_42 hg (Kd.R_ne HO_447002.out BK440.out (by decide))); have n3_ := Aside0.mk (blk_grown (g := gb446) (o := .cells #[.int .i64 t441, .slice Ao7 t442.length co7, .slice (some ⟨go29, 0, none⟩) x447002_1.length co29] 50 (0, 0)) zcj_56 hg (Kd.R_ne HO_447002.out BK446.out (by decide))); have n4_ := Aside0.mk (IsS63.grown zcj_30 hg (IsS63.own_ne HI0.out HO_447002.out (by decide))); have n5_ := Aside0.mk ((by rw [hw]; exact below_set (HB.out) (Nat.le_trans HL.out GB29.out) : Below w0.heap.size w0 w36)); have n6_ := Aside0.mk (KeepBut.trans zcj_35 (KeepBut.of_grown hg g) (Kd.R_base2 HO_447002.out)); clear HO_447001; clear HO_447002; clear BK440; clear BK446; clear HI0; clear HB; clear HK; have HO_447001 := n0_; have HO_447002 := n1_; have BK440 := n2_; have BK446 := n3_; have HI0 := n4_; have HB := n5_; have HK := n6_; clear n0_ n1_ n2_ n3_ n4_ n5_ n6_; clear hg hw hp_; have hcz37_0 : w36.cell? ⟨gb446, 0, none⟩ = some (.int .i64 t441) := (blk_cell BK446.out 0).trans rfl; have hcz37_1 : w36.cell? ⟨gb446, 1, none⟩ = some (.slice Ao7 t442.length co7) := (blk_cell BK446.out 1).trans rfl; have hcz37_2 : w36.cell? ⟨gb446, 2, none⟩ = some (.slice (some ⟨go29, 0, none⟩) x447002_1.length co29) := (blk_cell BK446.out 2).trans rfl; have hfz37_0 := blk_frozen BK446.out 0; have hfz37_1 := blk_frozen BK446.out 1; have hfz37_2 := blk_frozen BK446.out 2; have hnb38 := NB440_0.out; have hnc38 := NB0_440.out; have hcz39_0 : w36.cell? ⟨gb440, 0, none⟩ = some (.int .i64 0) := (blk_cell BK440.out 0).trans rfl; have hcz39_1 : w36.cell? ⟨gb440, 1, none⟩ = some (.slice none 0 0) := (blk_cell BK440.out 1).trans rfl; have hcz39_2 : w36.cell? ⟨gb440, 2, none⟩ = some (.slice none 0 0) := (blk_cell BK440.out 2).trans rfl; have hfz39_0 := blk_frozen BK440.out 0; have hfz39_1 := blk_frozen BK440.out 1; have hfz39_2 := blk_frozen BK440.out 2))
 refine bodyPost_ret (results_cell_row rfl _ _ gb440 50 #[.int .i64 t441, .slice Ao7 t442.length co7, .slice (some ⟨go29, 0, none⟩) x447002_1.length co29] (0, 0) _ rfl zcj_168 Tryd.underlying50 rfl (by kernel_rfl)) rfl ?_
 exact ⟨_, _, zcj_13, by (with_reducible repeat (first | apply Kd.R_alloc | apply Kd.R_drewN | apply Kd.R_drew)); exact Kd.R_mono (Kd.R_far (p := ⟨gb440, 2, none⟩) (Kd.R_far (p := ⟨gb440, 1, none⟩) (Kd.R_far (p := ⟨gb440, 0, none⟩) (Kd.R_types HO_447001.out BK440.out (by decide)) (fun _ hk => hk.2) (.int .i64 t441)) (fun _ hk => hk.2) (.slice Ao7 t442.length co7)) (fun _ hk => hk.2) (.slice (some ⟨go29, 0, none⟩) x447002_1.length co29)) (fun _ hk => trivial), by (with_reducible repeat (first | apply Kd.R_alloc | apply Kd.R_drewN | apply Kd.R_drew)); exact Kd.R_mono (Kd.R_far (p := ⟨gb440, 2, none⟩) (Kd.R_far (p := ⟨gb440, 1, none⟩) (Kd.R_far (p := ⟨gb440, 0, none⟩) (Kd.R_types HO_447002.out BK440.out (by decide)) (fun _ hk => hk.2) (.int .i64 t441)) (fun _ hk => hk.2) (.slice Ao7 t442.length co7)) (fun _ hk => hk.2) (.slice (some ⟨go29, 0, none⟩) x447002_1.length co29)) (fun _ hk => trivial), zcj_30, zcj_34, zcj_35⟩
 }
 {
 rw [if_neg c28] at H
 exact absurd H (by simp)
 }
 }
 {
 rw [if_neg c27] at H
 have c27b0 : (t459 == 0) = false := beq_eq_false_iff_ne.mpr c27
 have c27b1 : (t459 != 0) = true := bne_iff_ne.mpr c27
 by_cases c40 : t459 = 1
 {
 rw [if_pos c40] at H
 have c40b0 : (t459 == 1) = true := beq_iff_eq.mpr c40
 have c40b1 : (t459 != 1) = false := bne_eq_false_iff_eq.mpr c40
 clear c40
 simp only [Option.some.injEq, Prod.mk.injEq] at H
 obtain ⟨rfl, rfl, rfl, rfl⟩ := H
 go_wp2_with (first | ((with_reducible refine gate_callee (f := 39) rfl ?_); refine goesL_ (some 31) rfl rfl Tryd.func39 (by kernel_rfl) rfl #[.pointer (some ⟨g, 0, none⟩), .int .i64 a1] rfl zcj_3 ?_; (with_reducible refine (spec_l20Rd_odd.calls k1 g s0_0 x1001_1 a1 true t458 w0 _ ?side1 ?side2 A24.out).mono ?_); (case side1 => exact zcj_30); (case side2 => exact zcj_34); rintro e w41 ⟨rfl, hi, hb, hk⟩; refine ⟨_, rfl, ?_⟩; refine zcj_f8 ?_; clear HO_447001; clear HO_447002; clear BK440; clear BK446; clear HK; clear HB; clear HI0; intro HO_447001 HO_447002 BK440 BK446 HK HB HI0; (try clear hb); (try clear hb2); (try clear hk); (try clear hi)) | ((with_reducible refine gate_callee (f := 34) rfl ?_); refine goesL_ (some 33) rfl rfl Tryd.func34 (by kernel_rfl) rfl #[.pointer (some ⟨g, 0, none⟩), .int .i64 3] rfl zcj_3 ?_; (with_reducible refine (spec_l20Rd_pick.calls k1 g s0_0 t458 3 t459 t460 w0 _ ?side1 ?side2 A26.out).mono ?_); (case side1 => exact zcj_30); (case side2 => exact zcj_34); rintro e w42 ⟨rfl, hi, hb, hk⟩; refine ⟨_, rfl, ?_⟩; refine zcj_f15 ?_; clear HO_447001; clear HO_447002; clear BK440; clear BK446; clear HK; clear HB; clear HI0; intro HO_447001 HO_447002 BK440 BK446 HK HB HI0; (try clear hb); (try clear hb2); (try clear hk); (try clear hi); have hnb43 := NB446_440.out; have hnc43 := NB440_446.out; have hnb44 := NB446_0.out; have hnc44 := NB0_446.out; have hcz45_0 : w42.cell? ⟨gb446, 0, none⟩ = some (.int .i64 t441) := (blk_cell BK446.out 0).trans rfl; have hcz45_1 : w42.cell? ⟨gb446, 1, none⟩ = some (.slice Ao7 t442.length co7) := (blk_cell BK446.out 1).trans rfl; have hcz45_2 : w42.cell? ⟨gb446, 2, none⟩ = some (u447002) := (blk_cell BK446.out 2).trans rfl; have hfz45_0 := blk_frozen BK446.out 0; have hfz45_1 := blk_frozen BK446.out 1; have hfz45_2 := blk_frozen BK446.out 2; have hnb46 := NB440_0.out; have hnc46 := NB0_440.out; have hcz47_0 : w42.cell? ⟨gb440, 0, none⟩ = some (.int .i64 0) := (blk_cell BK440.out 0).trans rfl; have hcz47_1 : w42.cell? ⟨gb440, 1, none⟩ = some (.slice none 0 0) := (blk_cell BK440.out 1).trans rfl; have hcz47_2 : w42.cell? ⟨gb440, 2, none⟩ = some (.slice none 0 0) := (blk_cell BK440.out 2).trans rfl; have hfz47_0 := blk_frozen BK440.out 0; have hfz47_1 := blk_frozen BK440.out 1; have hfz47_2 := blk_frozen BK440.out 2; obtain ⟨Ao48, co48, eo48⟩ := Kd.R_slice HO_447002.out; subst eo48))
 refine bodyPost_ret (results_cell_row rfl _ _ gb440 50 #[.int .i64 7, .slice Ao7 t442.length co7, .slice Ao48 x447002_1.length co48] (0, 0) _ rfl (by (with_reducible repeat (first | refine blk_drewN ?_ _ | refine blk_drew ?_ | refine blk_alloc ?_ _)); refine blk_put (cs := #[.int .i64 7, .slice Ao7 t442.length co7, .slice none 0 0]) ?_ 2 _ rfl; (with_reducible repeat (first | refine blk_drewN ?_ _ | refine blk_drew ?_ | refine blk_alloc ?_ _)); refine blk_put (cs := #[.int .i64 7, .slice none 0 0, .slice none 0 0]) ?_ 1 _ rfl; (with_reducible repeat (first | refine blk_drewN ?_ _ | refine blk_drew ?_ | refine blk_alloc ?_ _)); refine blk_put (cs := #[.int .i64 0, .slice none 0 0, .slice none 0 0]) ?_ 0 _ rfl; (with_reducible repeat (first | refine blk_drewN ?_ _ | refine blk_drew ?_ | refine blk_alloc ?_ _)); refine blk_far ?_ NB440_446.out _; (with_reducible repeat (first | refine blk_drewN ?_ _ | refine blk_drew ?_ | refine blk_alloc ?_ _)); exact BK440.out) Tryd.underlying50 rfl (by kernel_rfl)) rfl ?_
 exact ⟨_, _, zcj_13, by (with_reducible repeat (first | apply Kd.R_alloc | apply Kd.R_drewN | apply Kd.R_drew)); exact Kd.R_mono (Kd.R_far (p := ⟨gb440, 2, none⟩) (Kd.R_far (p := ⟨gb440, 1, none⟩) (Kd.R_far (p := ⟨gb440, 0, none⟩) (Kd.R_far (p := ⟨gb446, 0, none⟩) (Kd.R_types (Kd.R_types HO_447001.out BK446.out (by decide)) BK440.out (by decide)) (fun _ hk => hk.1.2) (.int .i64 7)) (fun _ hk => hk.2) (.int .i64 7)) (fun _ hk => hk.2) (.slice Ao7 t442.length co7)) (fun _ hk => hk.2) (.slice Ao48 x447002_1.length co48)) (fun _ hk => trivial), by (with_reducible repeat (first | apply Kd.R_alloc | apply Kd.R_drewN | apply Kd.R_drew)); exact Kd.R_mono (Kd.R_far (p := ⟨gb440, 2, none⟩) (Kd.R_far (p := ⟨gb440, 1, none⟩) (Kd.R_far (p := ⟨gb440, 0, none⟩) (Kd.R_far (p := ⟨gb446, 0, none⟩) (Kd.R_types (Kd.R_types HO_447002.out BK446.out (by decide)) BK440.out (by decide)) (fun _ hk => hk.1.2) (.int .i64 7)) (fun _ hk => hk.2) (.int .i64 7)) (fun _ hk => hk.2) (.slice Ao7 t442.length co7)) (fun _ hk => hk.2) (.slice Ao48 x447002_1.length co48)) (fun _ hk => trivial), zcj_30, zcj_34, zcj_35⟩
 }
 {
 rw [if_neg c40] at H
 have c40b0 : (t459 == 1) = false := beq_eq_false_iff_ne.mpr c40
 have c40b1 : (t459 != 1) = true := bne_iff_ne.mpr c40
 simp only [Option.some.injEq, Prod.mk.injEq] at H
 obtain ⟨rfl, rfl, rfl, rfl⟩ := H
 go_wp2_with (first | ((with_reducible refine gate_callee (f := 39) rfl ?_); refine goesL_ (some 31) rfl rfl Tryd.func39 (by kernel_rfl) rfl #[.pointer (some ⟨g, 0, none⟩), .int .i64 a1] rfl zcj_3 ?_; (with_reducible refine (spec_l20Rd_odd.calls k1 g s0_0 x1001_1 a1 true t458 w0 _ ?side1 ?side2 A24.out).mono ?_); (case side1 => exact zcj_30); (case side2 => exact zcj_34); rintro e w49 ⟨rfl, hi, hb, hk⟩; refine ⟨_, rfl, ?_⟩; refine zcj_f8 ?_; clear HO_447001; clear HO_447002; clear BK440; clear BK446; clear HK; clear HB; clear HI0; intro HO_447001 HO_447002 BK440 BK446 HK HB HI0; (try clear hb); (try clear hb2); (try clear hk); (try clear hi)) | ((with_reducible refine gate_callee (f := 34) rfl ?_); refine goesL_ (some 33) rfl rfl Tryd.func34 (by kernel_rfl) rfl #[.pointer (some ⟨g, 0, none⟩), .int .i64 3] rfl zcj_3 ?_; (with_reducible refine (spec_l20Rd_pick.calls k1 g s0_0 t458 3 t459 t460 w0 _ ?side1 ?side2 A26.out).mono ?_); (case side1 => exact zcj_30); (case side2 => exact zcj_34); rintro e w50 ⟨rfl, hi, hb, hk⟩; refine ⟨_, rfl, ?_⟩; refine zcj_f15 ?_; clear HO_447001; clear HO_447002; clear BK440; clear BK446; clear HK; clear HB; clear HI0; intro HO_447001 HO_447002 BK440 BK446 HK HB HI0; (try clear hb); (try clear hb2); (try clear hk); (try clear hi); have hnb51 := NB440_446.out; have hnc51 := NB446_440.out; have hnb52 := NB440_0.out; have hnc52 := NB0_440.out; have hcz53_0 : w50.cell? ⟨gb440, 0, none⟩ = some (.int .i64 0) := (blk_cell BK440.out 0).trans rfl; have hcz53_1 : w50.cell? ⟨gb440, 1, none⟩ = some (.slice none 0 0) := (blk_cell BK440.out 1).trans rfl; have hcz53_2 : w50.cell? ⟨gb440, 2, none⟩ = some (.slice none 0 0) := (blk_cell BK440.out 2).trans rfl; have hfz53_0 := blk_frozen BK440.out 0; have hfz53_1 := blk_frozen BK440.out 1; have hfz53_2 := blk_frozen BK440.out 2))
 refine bodyPost_ret (results_cell_row rfl _ _ gb440 50 #[.int .i64 0, .slice none 0 0, .slice none 0 0] (0, 0) _ rfl (by (with_reducible repeat (first | refine blk_drewN ?_ _ | refine blk_drew ?_ | refine blk_alloc ?_ _)); refine blk_put (cs := #[.int .i64 0, .slice none 0 0, .slice none 0 0]) ?_ 2 _ rfl; (with_reducible repeat (first | refine blk_drewN ?_ _ | refine blk_drew ?_ | refine blk_alloc ?_ _)); refine blk_put (cs := #[.int .i64 0, .slice none 0 0, .slice none 0 0]) ?_ 1 _ rfl; (with_reducible repeat (first | refine blk_drewN ?_ _ | refine blk_drew ?_ | refine blk_alloc ?_ _)); refine blk_put (cs := #[.int .i64 0, .slice none 0 0, .slice none 0 0]) ?_ 0 _ rfl; (with_reducible repeat (first | refine blk_drewN ?_ _ | refine blk_drew ?_ | refine blk_alloc ?_ _)); exact BK440.out) Tryd.underlying50 rfl (by kernel_rfl)) rfl ?_
 exact ⟨_, _, zcj_13, zcj_104, zcj_104, zcj_30, zcj_34, zcj_35⟩
 }
 }
 }
 {
 replace c25 := Bool.eq_false_iff.mpr c25
 subst c25
 rw [if_neg (show ¬ (false = true) by decide)] at H
 simp only [Option.some.injEq, Prod.mk.injEq] at H
 obtain ⟨rfl, rfl, rfl, rfl⟩ := H
 go_wp2_with (first | ((with_reducible refine gate_callee (f := 39) rfl ?_); refine goesL_ (some 31) rfl rfl Tryd.func39 (by kernel_rfl) rfl #[.pointer (some ⟨g, 0, none⟩), .int .i64 a1] rfl zcj_3 ?_; (with_reducible refine (spec_l20Rd_odd.calls k1 g s0_0 x1001_1 a1 false t458 w0 _ ?side1 ?side2 A24.out).mono ?_); (case side1 => exact zcj_30); (case side2 => exact zcj_34); rintro e w54 ⟨rfl, hi, hb, hk⟩; refine ⟨_, rfl, ?_⟩; refine zcj_f8 ?_; clear HO_447001; clear HO_447002; clear BK440; clear BK446; clear HK; clear HB; clear HI0; intro HO_447001 HO_447002 BK440 BK446 HK HB HI0; (try clear hb); (try clear hb2); (try clear hk); (try clear hi); have hnb55 := NB446_440.out; have hnc55 := NB440_446.out; have hnb56 := NB446_0.out; have hnc56 := NB0_446.out; have hcz57_0 : w54.cell? ⟨gb446, 0, none⟩ = some (.int .i64 t441) := (blk_cell BK446.out 0).trans rfl; have hcz57_1 : w54.cell? ⟨gb446, 1, none⟩ = some (.slice Ao7 t442.length co7) := (blk_cell BK446.out 1).trans rfl; have hcz57_2 : w54.cell? ⟨gb446, 2, none⟩ = some (u447002) := (blk_cell BK446.out 2).trans rfl; have hfz57_0 := blk_frozen BK446.out 0; have hfz57_1 := blk_frozen BK446.out 1; have hfz57_2 := blk_frozen BK446.out 2; have hnb58 := NB440_0.out; have hnc58 := NB0_440.out; have hcz59_0 : w54.cell? ⟨gb440, 0, none⟩ = some (.int .i64 0) := (blk_cell BK440.out 0).trans rfl; have hcz59_1 : w54.cell? ⟨gb440, 1, none⟩ = some (.slice none 0 0) := (blk_cell BK440.out 1).trans rfl; have hcz59_2 : w54.cell? ⟨gb440, 2, none⟩ = some (.slice none 0 0) := (blk_cell BK440.out 2).trans rfl; have hfz59_0 := blk_frozen BK440.out 0; have hfz59_1 := blk_frozen BK440.out 1; have hfz59_2 := blk_frozen BK440.out 2; obtain ⟨Ao60, co60, eo60⟩ := Kd.R_slice HO_447002.out; subst eo60))
 refine bodyPost_ret (results_cell_row rfl _ _ gb440 50 #[.int .i64 t441, .slice Ao7 t442.length co7, .slice Ao60 x447002_1.length co60] (0, 0) _ rfl zcj_168 Tryd.underlying50 rfl (by kernel_rfl)) rfl ?_
 exact ⟨_, _, zcj_13, by (with_reducible repeat (first | apply Kd.R_alloc | apply Kd.R_drewN | apply Kd.R_drew)); exact Kd.R_mono (Kd.R_far (p := ⟨gb440, 2, none⟩) (Kd.R_far (p := ⟨gb440, 1, none⟩) (Kd.R_far (p := ⟨gb440, 0, none⟩) (Kd.R_types HO_447001.out BK440.out (by decide)) (fun _ hk => hk.2) (.int .i64 t441)) (fun _ hk => hk.2) (.slice Ao7 t442.length co7)) (fun _ hk => hk.2) (.slice Ao60 x447002_1.length co60)) (fun _ hk => trivial), by (with_reducible repeat (first | apply Kd.R_alloc | apply Kd.R_drewN | apply Kd.R_drew)); exact Kd.R_mono (Kd.R_far (p := ⟨gb440, 2, none⟩) (Kd.R_far (p := ⟨gb440, 1, none⟩) (Kd.R_far (p := ⟨gb440, 0, none⟩) (Kd.R_types HO_447002.out BK440.out (by decide)) (fun _ hk => hk.2) (.int .i64 t441)) (fun _ hk => hk.2) (.slice Ao7 t442.length co7)) (fun _ hk => hk.2) (.slice Ao60 x447002_1.length co60)) (fun _ hk => trivial), zcj_30, zcj_34, zcj_35⟩
 }
 }
 )
 )
end Go.Proofs.YtnkfbappnpnaoaaDoor.Q
