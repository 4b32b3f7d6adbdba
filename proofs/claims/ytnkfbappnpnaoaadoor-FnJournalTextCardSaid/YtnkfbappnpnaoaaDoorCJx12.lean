/- A part of this claim's proof: functions of the program as plain functions, with the proof that the code comes to their answers, and facts about them. Condition: none of its own. -/
import Derived.Test.YtnkfbappnpnaoaaDoorCJx1
import Derived.Test.YtnkfbappnpnaoaaDoorCJx11
import Derived.Test.YtnkfbappnpnaoaaDoorCJx7
import Derived.Test.YtnkfbappnpnaoaaDoorCJz
namespace Go.Proofs.YtnkfbappnpnaoaaDoor.Q
open Go.RowKit Go.Proofs.YtnkfbappnpnaoaaDoorW.PrintWords Go.Proofs.YtnkfbappnpnaoaaDoorW.PrintLast Go.Proofs.YtnkfbappnpnaoaaDoorW.PrintMore
attribute [local go_sem] max2_int min2_int max_two min_two max_three min_three max_four min_four   -- for this text's walks alone
set_option linter.unusedVariables false
set_option linter.unusedSimpArgs false
mutual
def spec_l20Term.j0 : Nat → Bool → List Int → Int → Int → List Int → Option ((List (S77)) × Int)
  | 0, _, _, _, _, _ => none
  | k + 1, x21, x1000, x1001, x282000, x282001 => if x21 = true then ((some (([(([] : List (S77))), (([(⟨1, 0, 0⟩ : S77)] : List (S77))), (([(⟨0, 3, 7⟩ : S77)] : List (S77))), (([(⟨0, 0, 1⟩ : S77), (⟨0, 0, 1⟩ : S77)] : List (S77)))] : List (List (S77))) : List (List (S77)))).bind fun y296 => ((spec_l20Rd_pick.f k x1000 x1001 4).bind fun bt299 => (if 0 ≤ bt299.1 then (if bt299.1 < (y296.length : Int) then (some (rd_L6 y296 bt299.1, bt299.2)) else (none)) else (none)))) else ((spec_l20Rd_pick.f k x1000 x1001 4).bind fun bt305 => (spec_l20Term.l0 k (([] : List (List (S77)))) (wrap64 (1 + bt305.1)) x1000 bt305.2 x282000 x282001))
def spec_l20Term.l0 : Nat → List (List (S77)) → Int → List Int → Int → Int → List Int → Option ((List (S77)) × Int)
  | 0, _, _, _, _, _, _ => none
  | k + 1, x7, x8, x1000, x1001, x282000, x282001 => if x8 > 0 then ((spec_l20Rd_pick.f k x1000 x1001 (x282001.length : Int)).bind fun bt307 => (if 0 ≤ bt307.1 then (if bt307.1 < (x282001.length : Int) then ((spec_l1Heads.f k (mx (rd x282001 bt307.1) 0)).bind fun t310 => ((spec_l20Rd_pick.f k x1000 bt307.2 (mx t310 1)).bind fun bt311 => (if x7.length < 5864062014805 then (spec_l20Term.l0 k (x7 ++ [(([(⟨0, bt307.1, wrap64 (1 + bt311.1)⟩ : S77)] : List (S77)))]) (wrap64 (x8 - 1)) x1000 bt311.2 x282000 x282001) else (none)))) else (none)) else (none))) else (spec_l20Term.l1 k x7 x1000 x1001)
def spec_l20Term.l1 : Nat → List (List (S77)) → List Int → Int → Option ((List (S77)) × Int)
  | 0, _, _, _ => none
  | k + 1, x7, x1000, x1001 => if (x7.length : Int) > 1 then ((spec_l20Rd_pick.f k x1000 x1001 (wrap64 ((x7.length : Int) - 1))).bind fun bt319 => ((some (([] : List (S77)) : List (S77))).bind fun y321 => (if 0 ≤ bt319.1 then (if bt319.1 < (x7.length : Int) then (if y321.length + (rd_L6 x7 bt319.1).length < 5864062014805 then ((some (y321 ++ (rd_L6 x7 bt319.1) : List (S77))).bind fun y325 => (if 0 ≤ (wrap64 (bt319.1 + 1)) then (if (wrap64 (bt319.1 + 1)) < (x7.length : Int) then (if y325.length + (rd_L6 x7 (wrap64 (bt319.1 + 1))).length < 5864062014805 then ((some (y325 ++ (rd_L6 x7 (wrap64 (bt319.1 + 1))) : List (S77))).bind fun y329 => ((spec_l20Rd_pick.f k x1000 bt319.2 2).bind fun bt332 => (if y329.length < 5864062014805 then ((some (([] : List (List (S77))) : List (List (S77)))).bind fun y337 => (if bt319.1 ≤ (x7.length : Int) then ((some (x7.take (bt319.1 : Int).toNat : List (List (S77)))).bind fun y340 => (if y337.length + y340.length < 5864062014805 then ((some (y337 ++ y340 : List (List (S77)))).bind fun y345 => (if y345.length < 5864062014805 then ((some (y345 ++ [(y329 ++ [(⟨wrap64 (1 + bt332.1), 0, 0⟩ : S77)])] : List (List (S77)))).bind fun y348 => (if 0 ≤ (wrap64 (bt319.1 + 2)) then (if (wrap64 (bt319.1 + 2)) ≤ (x7.length : Int) then ((some (x7.drop ((wrap64 (bt319.1 + 2)) : Int).toNat : List (List (S77)))).bind fun y351 => (if y348.length + y351.length < 5864062014805 then (spec_l20Term.l1 k (y348 ++ y351) x1000 bt332.2) else (none))) else (none)) else (none))) else (none))) else (none))) else (none))) else (none)))) else (none)) else (none)) else (none))) else (none)) else (none)) else (none)))) else (if 0 < (x7.length : Int) then (some (rd_L6 x7 0, x1001)) else (none))
end
def spec_l20Term.f (k : Nat) (s0_0 : List Int) (s0_1 : Int) (a1_0 : Int) (l1_1 : List Int) (a2 : Int) : Option ((List (S77)) × Int) := if (l1_1.length : Int) = 0 then (spec_l20Term.j0 k true s0_0 s0_1 a1_0 l1_1) else ((spec_l20Rd_odd.f k s0_0 s0_1 a2).bind fun bt282 => (spec_l20Term.j0 k bt282.1 s0_0 bt282.2 a1_0 l1_1))
def spec_l20Term.T11 : Bool × List (List Nat × List Nat) := (true, [([], []), ([], []), ([], []), ([1, 2], [1, 2]), ([3], [3]), ([0, 4], [0, 4]), ([], []), ([], []), ([7], [7]), ([6, 8], [6, 8]), ([9], [9]), ([5, 10, 5], [5, 10]), ([], []), ([12, 11], [12]), ([13], [13]), ([14], [14]), ([15], [15]), ([11, 16, 13], [11, 16]), ([17, 17, 0, 1, 2, 3, 4, 5, 6, 7, 8, 9, 10, 11, 12, 13, 14, 15, 16, 17], [17])])
def spec_l20Term.B11 : List Nat := [0, 0, 0, 6, 14, 31, 0, 0, 128, 448, 960, 2047, 0, 8191, 16383, 32767, 65535, 131071, 262143]
theorem spec_l20Term.tab11 : rtab .any (opsOf Tryd.f42 11) = spec_l20Term.T11 := by kernel_rfl
theorem spec_l20Term.bits11 : waitsOk spec_l20Term.T11.2 spec_l20Term.B11 = true := by kernel_rfl
set_option maxHeartbeats 8000000 in
set_option maxRecDepth 100000 in
theorem spec_l20Term.calls (k : Nat) (g : Nat) (s0_0 : List Int) (s0_1 : Int) (a1_0 : Int) (A1_1 : Option Addr) (c1_1 : Nat) (l1_1 : List Int) (a2 : Int) (r1 : List (S77)) (r2 : Int) (w0 w : World) (hI : IsS63 w0 w g s0_0 s0_1) (hB : Below w0.heap.size w0 w) (hr1_1 : Kd.C (Kd.int .i64) w A1_1 l1_1.length l1_1) (hc1_1 : l1_1.length ≤ c1_1) (hf1_1 : ∀ ad, A1_1 = some ad → 0 < l1_1.length → ad.block ≠ g) (h : spec_l20Term.f k s0_0 s0_1 a1_0 l1_1 a2 = some (r1, r2)) :
    Calls Tryd.prog 42 #[.pointer (some ⟨g, 0, none⟩), .agg #[.int .i64 a1_0, .slice A1_1 l1_1.length c1_1], .int .i64 a2] w fun e w' => ∃ v0_ : Value, e = .returned (v0_) ∧ Kd.V k77 77 w' w.heap.size (fun k_ => (w.heap.size ≤ k_)) v0_ r1 ∧ IsS63 w0 w' g s0_0 r2 ∧ Below w0.heap.size w0 w' ∧ KeepBut w w' g none := by
 have hu47 := Tryd.underlying47
 have hu77 := Tryd.underlying77
 have HR1_1 := Aside0.mk hr1_1
 have HC1_1 := Aside0.mk hc1_1
 clear hr1_1 hc1_1
 have HI0 := Aside0.mk hI
 have HK := Aside0.mk (KeepBut.refl w g none)
 have HL := Aside0.mk hB.size
 clear hI
 have HW0 := Aside0.mk hB.size
 have HB := Aside0.mk hB
 clear hB
 have H : (if (l1_1.length : Int) = 0 then (spec_l20Term.j0 k true s0_0 s0_1 a1_0 l1_1) else ((spec_l20Rd_odd.f k s0_0 s0_1 a2).bind fun bt282 => (spec_l20Term.j0 k bt282.1 s0_0 bt282.2 a1_0 l1_1))) = some (r1, r2) := h
 clear h
 have HC4 := Aside0.mk H
 clear H
 go_enter Tryd.func42, Tryd.ntmps42
 go_upto_region 1 with (first | ((with_reducible refine gate_dst (N := 4) rfl ?_); refine box_event ?hg (N := 4) ?hd (cs := #[.int .i64 a1_0, .slice A1_1 l1_1.length c1_1]) (t := 47) ?hr ?_; (case hd => rfl); (case hg => rfl); (case hr => exact zcj_12); intro gb281 hg w5 hbox hb; have n0_ := Aside0.mk (IsS63.below zcj_25 hb); have n1_ := Aside0.mk (KeepBut.trans zcj_17 (KeepBut.of_below hb g none) (.inl rfl)); have n2_ := Aside0.mk (below_step zcj_26 hb); have n3_ := Aside0.mk (hbox); have n4_ := Aside0.mk ((zcj_46 : w.heap.size ≤ gb281)); have n5_ := Aside0.mk ((Nat.le_trans HW0.out (zcj_46 : w.heap.size ≤ gb281) : w0.heap.size ≤ gb281)); have n6_ := Aside0.mk ((zcj_84 : g ≠ gb281)); have n7_ := Aside0.mk ((zcj_85 : gb281 ≠ g)); clear HI0; clear HK; clear HB; have HI0 := n0_; have HK := n1_; have HB := n2_; have BK281 := n3_; have GW281 := n4_; have GE281 := n5_; have NB0_281 := n6_; have NB281_0 := n7_; clear n0_ n1_ n2_ n3_ n4_ n5_ n6_ n7_; clear hb hbox hg))
 (try simp only [Act.put, List.setIfInBounds_toArray, List.set_cons_zero, List.set_cons_succ])
 go_cut [21] (fun v21 wc => ∃ (kq : Nat) (x21_3 : Bool) (x1001_3 : Int), v21 = .bool x21_3 ∧ Aside0 (spec_l20Term.j0 kq x21_3 s0_0 x1001_3 a1_0 l1_1 = some (r1, r2)) ∧ Aside0 (kq ≤ k) ∧ Aside0 (wc.heap[gb281]? = some (.cells #[.int .i64 a1_0, (.slice A1_1 l1_1.length c1_1)] 47 (0, 0))) ∧ Aside0 (IsS63 w0 wc g s0_0 x1001_3) ∧ Aside0 (KeepBut w wc g none) ∧ Aside0 (Below w0.heap.size w0 wc))
 case first =>(
 have H := HC4.out
 clear HC4
 by_cases c6 : (l1_1.length : Int) = 0
 {
 rw [if_pos c6] at H
 have c6b0 : ((l1_1.length : Int) == 0) = true := beq_iff_eq.mpr c6
 have c6b1 : ((l1_1.length : Int) != 0) = false := bne_eq_false_iff_eq.mpr c6
 clear c6
 (first | rw [c6b0] | (simp only [i64_w, i32_w]; rw [c6b0]) | skip)
 have H' := Aside0.mk H
 clear H
 have hnb7 := NB281_0.out
 have hnc7 := NB0_281.out
 have hcz8_0 : w5.cell? ⟨gb281, 0, none⟩ = some (.int .i64 a1_0) := (blk_cell BK281.out 0).trans rfl
 have hcz8_1 : w5.cell? ⟨gb281, 1, none⟩ = some (.slice A1_1 l1_1.length c1_1) := (blk_cell BK281.out 1).trans rfl
 have hfz8_0 := blk_frozen BK281.out 0
 have hfz8_1 := blk_frozen BK281.out 1
 go_wp2
 go_meet
 case rel => exact ⟨_, (true), (s0_1), zcj_4, H', ⟨zcj_38⟩, ⟨zcj_19⟩, ⟨zcj_15⟩, ⟨zcj_9⟩, ⟨zcj_20⟩⟩
 }
 {
 rw [if_neg c6] at H
 have c6b0 : ((l1_1.length : Int) == 0) = false := beq_eq_false_iff_ne.mpr c6
 have c6b1 : ((l1_1.length : Int) != 0) = true := bne_iff_ne.mpr c6
 have c6b2 : ¬ (l1_1 = []) := fun h_ => c6 (by rw [h_]; rfl)
 (first | rw [c6b0] | (simp only [i64_w, i32_w]; rw [c6b0]) | skip)
 replace H := Option.bind_eq_some_iff.mp H
 obtain ⟨⟨t282, t283⟩, A90, H⟩ := H
 try dsimp only at H
 have A9 := Aside0.mk A90
 clear A90
 have H' := Aside0.mk H
 clear H
 have hnb10 := NB281_0.out
 have hnc10 := NB0_281.out
 have hcz11_0 : w5.cell? ⟨gb281, 0, none⟩ = some (.int .i64 a1_0) := (blk_cell BK281.out 0).trans rfl
 have hcz11_1 : w5.cell? ⟨gb281, 1, none⟩ = some (.slice A1_1 l1_1.length c1_1) := (blk_cell BK281.out 1).trans rfl
 have hfz11_0 := blk_frozen BK281.out 0
 have hfz11_1 := blk_frozen BK281.out 1
 go_wp2_with (first | (go_at_call 39; (with_reducible refine (spec_l20Rd_odd.calls k g s0_0 s0_1 a2 t282 t283 w0 _ ?side1 ?side2 A9.out).mono ?_); (case side1 => exact zcj_15); (case side2 => exact zcj_20); rintro e w12 ⟨rfl, hi, hb, hk⟩; have n0_ := Aside0.mk (KeepBut.blk hk (g' := gb281) (o := .cells #[.int .i64 a1_0, .slice A1_1 l1_1.length c1_1] 47 (0, 0)) zcj_19 NB281_0.out (by simp)); have n1_ := Aside0.mk (KeepBut.trans zcj_9 hk (.inl rfl)); have n2_ := Aside0.mk (hb); have n3_ := Aside0.mk (hi); clear BK281; clear HK; clear HB; clear HI0; have BK281 := n0_; have HK := n1_; have HB := n2_; have HI0 := n3_; clear n0_ n1_ n2_ n3_; (try clear hb); (try clear hb2); (try clear hk); (try clear hi)))
 go_meet
 case rel => exact ⟨_, (t282), (t283), zcj_4, H', ⟨zcj_38⟩, ⟨zcj_19⟩, ⟨zcj_15⟩, ⟨zcj_9⟩, ⟨zcj_20⟩⟩
 }
 )
 case rest =>(
 clear HC4
 obtain ⟨kq, x21_3, x1001_3, rfl, HA, HJ3, BK281, HI0, HK, HB⟩ := hcut
 cases kq with
 | zero => exact absurd HA.out (by simp [spec_l20Term.j0])
 | succ kj3 =>(
 have H := HA.out
 clear HA
 simp only [spec_l20Term.j0] at H
 by_cases c13 : x21_3 = true
 {
 subst c13
 rw [if_pos rfl] at H
 obtain ⟨y284, hy284⟩ : ∃ y_ : List (S77), y_ = (([] : List (S77))) := ⟨_, rfl⟩
 replace H : ((some (([y284, (([(⟨1, 0, 0⟩ : S77)] : List (S77))), (([(⟨0, 3, 7⟩ : S77)] : List (S77))), (([(⟨0, 0, 1⟩ : S77), (⟨0, 0, 1⟩ : S77)] : List (S77)))] : List (List (S77))) : List (List (S77)))).bind fun y296 => ((spec_l20Rd_pick.f kj3 s0_0 x1001_3 4).bind fun bt299 => (if 0 ≤ bt299.1 then (if bt299.1 < (y296.length : Int) then (some (rd_L6 y296 bt299.1, bt299.2)) else (none)) else (none)))) = some (r1, r2) := by first | (rw [hy284]; with_reducible exact H) | (have H2_ := (Option.bind_some _ _).symm.trans H; rw [hy284]; with_reducible exact H2_) | (have H2_ := (Option.bind_some _ _).symm.trans H; with_reducible exact H2_) | with_reducible exact H | (rw [hy284]; exact H) | exact H
 have Ny284 := Aside0.mk hy284
 clear hy284
 obtain ⟨y287, hy287⟩ : ∃ y_ : List (S77), y_ = (([(⟨1, 0, 0⟩ : S77)] : List (S77))) := ⟨_, rfl⟩
 replace H : ((some (([y284, y287, (([(⟨0, 3, 7⟩ : S77)] : List (S77))), (([(⟨0, 0, 1⟩ : S77), (⟨0, 0, 1⟩ : S77)] : List (S77)))] : List (List (S77))) : List (List (S77)))).bind fun y296 => ((spec_l20Rd_pick.f kj3 s0_0 x1001_3 4).bind fun bt299 => (if 0 ≤ bt299.1 then (if bt299.1 < (y296.length : Int) then (some (rd_L6 y296 bt299.1, bt299.2)) else (none)) else (none)))) = some (r1, r2) := by first | (rw [hy287]; with_reducible exact H) | (have H2_ := (Option.bind_some _ _).symm.trans H; rw [hy287]; with_reducible exact H2_) | (have H2_ := (Option.bind_some _ _).symm.trans H; with_reducible exact H2_) | with_reducible exact H | (rw [hy287]; exact H) | exact H
 have Ny287 := Aside0.mk hy287
 clear hy287
 obtain ⟨y290, hy290⟩ : ∃ y_ : List (S77), y_ = (([(⟨0, 3, 7⟩ : S77)] : List (S77))) := ⟨_, rfl⟩
 replace H : ((some (([y284, y287, y290, (([(⟨0, 0, 1⟩ : S77), (⟨0, 0, 1⟩ : S77)] : List (S77)))] : List (List (S77))) : List (List (S77)))).bind fun y296 => ((spec_l20Rd_pick.f kj3 s0_0 x1001_3 4).bind fun bt299 => (if 0 ≤ bt299.1 then (if bt299.1 < (y296.length : Int) then (some (rd_L6 y296 bt299.1, bt299.2)) else (none)) else (none)))) = some (r1, r2) := by first | (rw [hy290]; with_reducible exact H) | (have H2_ := (Option.bind_some _ _).symm.trans H; rw [hy290]; with_reducible exact H2_) | (have H2_ := (Option.bind_some _ _).symm.trans H; with_reducible exact H2_) | with_reducible exact H | (rw [hy290]; exact H) | exact H
 have Ny290 := Aside0.mk hy290
 clear hy290
 obtain ⟨y293, hy293⟩ : ∃ y_ : List (S77), y_ = (([(⟨0, 0, 1⟩ : S77), (⟨0, 0, 1⟩ : S77)] : List (S77))) := ⟨_, rfl⟩
 replace H : ((some (([y284, y287, y290, y293] : List (List (S77))) : List (List (S77)))).bind fun y296 => ((spec_l20Rd_pick.f kj3 s0_0 x1001_3 4).bind fun bt299 => (if 0 ≤ bt299.1 then (if bt299.1 < (y296.length : Int) then (some (rd_L6 y296 bt299.1, bt299.2)) else (none)) else (none)))) = some (r1, r2) := by first | (rw [hy293]; with_reducible exact H) | (have H2_ := (Option.bind_some _ _).symm.trans H; rw [hy293]; with_reducible exact H2_) | (have H2_ := (Option.bind_some _ _).symm.trans H; with_reducible exact H2_) | with_reducible exact H | (rw [hy293]; exact H) | exact H
 have Ny293 := Aside0.mk hy293
 clear hy293
 obtain ⟨y296, hy296⟩ : ∃ y_ : List (List (S77)), y_ = (([y284, y287, y290, y293] : List (List (S77)))) := ⟨_, rfl⟩
 replace H : ((spec_l20Rd_pick.f kj3 s0_0 x1001_3 4).bind fun bt299 => (if 0 ≤ bt299.1 then (if bt299.1 < (y296.length : Int) then (some (rd_L6 y296 bt299.1, bt299.2)) else (none)) else (none))) = some (r1, r2) := by first | (rw [hy296]; with_reducible exact H) | (have H2_ := (Option.bind_some _ _).symm.trans H; rw [hy296]; with_reducible exact H2_) | (have H2_ := (Option.bind_some _ _).symm.trans H; with_reducible exact H2_) | with_reducible exact H | (rw [hy296]; exact H) | exact H
 have Ny296 := Aside0.mk hy296
 clear hy296
 replace H := Option.bind_eq_some_iff.mp H
 obtain ⟨⟨t299, t300⟩, A140, H⟩ := H
 try dsimp only at H
 have A14 := Aside0.mk A140
 clear A140
 by_cases c15 : 0 ≤ t299
 {
 rw [if_pos c15] at H
 have c15b0 : decide (0 ≤ t299) = true := decide_eq_true c15
 clear c15
 by_cases c16 : t299 < (y296.length : Int)
 {
 rw [if_pos c16] at H
 have c16b0 : decide (t299 < (y296.length : Int)) = true := decide_eq_true c16
 clear c16
 simp only [Option.some.injEq, Prod.mk.injEq] at H
 obtain ⟨rfl, rfl⟩ := H
 go_wp2_with (first | ((with_reducible refine gate_dst (N := 22) rfl ?_); refine Kd.R_lit k77 _ 77 ?hg (N := 22) ?hd (xs := ([] : List (S77))) (inner := []) (ok := fun _ => True) (okp := fun _ => True) ?hr ?hp (fun _ hk => hk) trivial (Below.refl _ _) (Nat.le_refl _) (by simp) ?_; (case hd => rfl); (case hg => rfl); (case hr => exact zcj_12); (case hp => exact (Reps.none _ _)); intro v285 w17 ho18 hb hg_ hnew_; clear hg_ hnew_; (first | rw [← Ny284.out] at ho18 | (simp only [Int.reduceToNat] at ho18; rw [← Ny284.out] at ho18)); have n0_ := Aside0.mk (Kd.R_lower (Kd.R_newM (M := fun k_ => (w.heap.size ≤ k_)) ho18 (keep_size (w := w) (g := g) (row := none) zcj_9) (fun k_ h_ => h_)) (keep_size (w := w) (g := g) (row := none) zcj_9)); have n1_ := Aside0.mk (blk_below (g := gb281) (o := .cells #[.int .i64 a1_0, .slice A1_1 l1_1.length c1_1] 47 (0, 0)) zcj_19 hb); have n2_ := Aside0.mk (IsS63.below zcj_15 hb); have n3_ := Aside0.mk (KeepBut.trans zcj_9 (KeepBut.of_below hb g none) (.inl rfl)); have n4_ := Aside0.mk (below_step zcj_20 hb); clear BK281; clear HI0; clear HK; clear HB; have HO286 := n0_; have BK281 := n1_; have HI0 := n2_; have HK := n3_; have HB := n4_; clear n0_ n1_ n2_ n3_ n4_; clear hb ho18) | ((with_reducible refine gate_dst (N := 24) rfl ?_); refine Kd.R_lit k77 _ 77 ?hg (N := 24) ?hd (xs := ([(⟨1, 0, 0⟩ : S77)] : List (S77))) (inner := [.int .i64 1, .int .i64 0, .int .i64 0]) (ok := fun _ => True) (okp := fun _ => True) ?hr ?hp (fun _ hk => hk) trivial (Below.refl _ _) (Nat.le_refl _) (by simp) ?_; (case hd => rfl); (case hg => rfl); (case hr => exact zcj_12); (case hp => exact (Reps.c3 (show Kd.M k77 _ _ _ (⟨1, 0, 0⟩ : S77) [.int .i64 1, .int .i64 0, .int .i64 0] from (k77_mkM _ _ _ (⟨1, 0, 0⟩ : S77) )) (Reps.none _ _))); intro v288 w19 ho20 hb hg_ hnew_; clear hg_ hnew_; (first | rw [← Ny287.out] at ho20 | (simp only [Int.reduceToNat] at ho20; rw [← Ny287.out] at ho20)); have n0_ := Aside0.mk (Kd.R_elder' zcj_73 (Kd.R_base ho20) hb); have n1_ := Aside0.mk (Kd.R_lower (Kd.R_new' (Kd.R_newM (M := fun k_ => (w.heap.size ≤ k_)) ho20 (keep_size (w := w) (g := g) (row := none) zcj_9) (fun k_ h_ => h_)) (Kd.R_lt zcj_73)) (keep_size (w := w) (g := g) (row := none) zcj_9)); have n2_ := Aside0.mk (blk_below (g := gb281) (o := .cells #[.int .i64 a1_0, .slice A1_1 l1_1.length c1_1] 47 (0, 0)) zcj_19 hb); have n3_ := Aside0.mk (IsS63.below zcj_15 hb); have n4_ := Aside0.mk (KeepBut.trans zcj_9 (KeepBut.of_below hb g none) (.inl rfl)); have n5_ := Aside0.mk (below_step zcj_20 hb); clear HO286; clear BK281; clear HI0; clear HK; clear HB; have HO286 := n0_; have HO289 := n1_; have BK281 := n2_; have HI0 := n3_; have HK := n4_; have HB := n5_; clear n0_ n1_ n2_ n3_ n4_ n5_; clear hb ho20) | ((with_reducible refine gate_dst (N := 26) rfl ?_); refine Kd.R_lit k77 _ 77 ?hg (N := 26) ?hd (xs := ([(⟨0, 3, 7⟩ : S77)] : List (S77))) (inner := [.int .i64 0, .int .i64 3, .int .i64 7]) (ok := fun _ => True) (okp := fun _ => True) ?hr ?hp (fun _ hk => hk) trivial (Below.refl _ _) (Nat.le_refl _) (by simp) ?_; (case hd => rfl); (case hg => rfl); (case hr => exact zcj_12); (case hp => exact (Reps.c3 (show Kd.M k77 _ _ _ (⟨0, 3, 7⟩ : S77) [.int .i64 0, .int .i64 3, .int .i64 7] from (k77_mkM _ _ _ (⟨0, 3, 7⟩ : S77) )) (Reps.none _ _))); intro v291 w21 ho22 hb hg_ hnew_; clear hg_ hnew_; (first | rw [← Ny290.out] at ho22 | (simp only [Int.reduceToNat] at ho22; rw [← Ny290.out] at ho22)); have n0_ := Aside0.mk (Kd.R_elder' zcj_73 (Kd.R_base ho22) hb); have n1_ := Aside0.mk (Kd.R_elder' zcj_97 (Kd.R_base ho22) hb); have n2_ := Aside0.mk (Kd.R_lower (Kd.R_new' (Kd.R_new' (Kd.R_newM (M := fun k_ => (w.heap.size ≤ k_)) ho22 (keep_size (w := w) (g := g) (row := none) zcj_9) (fun k_ h_ => h_)) (Kd.R_lt zcj_73)) (Kd.R_lt zcj_97)) (keep_size (w := w) (g := g) (row := none) zcj_9)); have n3_ := Aside0.mk (blk_below (g := gb281) (o := .cells #[.int .i64 a1_0, .slice A1_1 l1_1.length c1_1] 47 (0, 0)) zcj_19 hb); have n4_ := Aside0.mk (IsS63.below zcj_15 hb); have n5_ := Aside0.mk (KeepBut.trans zcj_9 (KeepBut.of_below hb g none) (.inl rfl)); have n6_ := Aside0.mk (below_step zcj_20 hb); clear HO286; clear HO289; clear BK281; clear HI0; clear HK; clear HB; have HO286 := n0_; have HO289 := n1_; have HO292 := n2_; have BK281 := n3_; have HI0 := n4_; have HK := n5_; have HB := n6_; clear n0_ n1_ n2_ n3_ n4_ n5_ n6_; clear hb ho22) | ((with_reducible refine gate_dst (N := 29) rfl ?_); refine Kd.R_lit k77 _ 77 ?hg (N := 29) ?hd (xs := ([(⟨0, 0, 1⟩ : S77), (⟨0, 0, 1⟩ : S77)] : List (S77))) (inner := [.int .i64 0, .int .i64 0, .int .i64 1, .int .i64 0, .int .i64 0, .int .i64 1]) (ok := fun _ => True) (okp := fun _ => True) ?hr ?hp (fun _ hk => hk) trivial (Below.refl _ _) (Nat.le_refl _) (by simp) ?_; (case hd => rfl); (case hg => rfl); (case hr => exact zcj_12); (case hp => exact (Reps.c3 (show Kd.M k77 _ _ _ (⟨0, 0, 1⟩ : S77) [.int .i64 0, .int .i64 0, .int .i64 1] from (k77_mkM _ _ _ (⟨0, 0, 1⟩ : S77) )) (Reps.c3 (show Kd.M k77 _ _ _ (⟨0, 0, 1⟩ : S77) [.int .i64 0, .int .i64 0, .int .i64 1] from (k77_mkM _ _ _ (⟨0, 0, 1⟩ : S77) )) (Reps.none _ _)))); intro v294 w23 ho24 hb hg_ hnew_; clear hg_ hnew_; (first | rw [← Ny293.out] at ho24 | (simp only [Int.reduceToNat] at ho24; rw [← Ny293.out] at ho24)); have n0_ := Aside0.mk (Kd.R_elder' zcj_73 (Kd.R_base ho24) hb); have n1_ := Aside0.mk (Kd.R_elder' zcj_97 (Kd.R_base ho24) hb); have n2_ := Aside0.mk (Kd.R_elder' zcj_146 (Kd.R_base ho24) hb); have n3_ := Aside0.mk (Kd.R_lower (Kd.R_new' (Kd.R_new' (Kd.R_new' (Kd.R_newM (M := fun k_ => (w.heap.size ≤ k_)) ho24 (keep_size (w := w) (g := g) (row := none) zcj_9) (fun k_ h_ => h_)) (Kd.R_lt zcj_73)) (Kd.R_lt zcj_97)) (Kd.R_lt zcj_146)) (keep_size (w := w) (g := g) (row := none) zcj_9)); have n4_ := Aside0.mk (blk_below (g := gb281) (o := .cells #[.int .i64 a1_0, .slice A1_1 l1_1.length c1_1] 47 (0, 0)) zcj_19 hb); have n5_ := Aside0.mk (IsS63.below zcj_15 hb); have n6_ := Aside0.mk (KeepBut.trans zcj_9 (KeepBut.of_below hb g none) (.inl rfl)); have n7_ := Aside0.mk (below_step zcj_20 hb); clear HO286; clear HO289; clear HO292; clear BK281; clear HI0; clear HK; clear HB; have HO286 := n0_; have HO289 := n1_; have HO292 := n2_; have HO295 := n3_; have BK281 := n4_; have HI0 := n5_; have HK := n6_; have HB := n7_; clear n0_ n1_ n2_ n3_ n4_ n5_ n6_ n7_; clear hb ho24; obtain ⟨Ao25, co25, eo25⟩ := Kd.R_slice HO286.out; subst eo25; obtain ⟨Ao26, co26, eo26⟩ := Kd.R_slice HO289.out; subst eo26; obtain ⟨Ao27, co27, eo27⟩ := Kd.R_slice HO292.out; subst eo27; obtain ⟨Ao28, co28, eo28⟩ := Kd.R_slice HO295.out; subst eo28) | ((with_reducible refine gate_dst (N := 30) rfl ?_); refine Kd.N_lit (Kd.slice 77 k77) _ 65 ?hg (N' := 30) ?hd (xs := ([y284, y287, y290, y293] : List (List (S77)))) (inner := [.slice Ao25 y284.length co25, .slice Ao26 y287.length co26, .slice Ao27 y290.length co27, .slice Ao28 y293.length co28]) (ok := (fun k_ => (w.heap.size ≤ k_) ∧ k_ ≠ gb281 ∧ k_ ≠ g)) (okp := (fun k_ => (w.heap.size ≤ k_) ∧ k_ ≠ gb281 ∧ k_ ≠ g)) ?hr ?hp (fun _ hk => hk) ((show ∀ k_, w23.heap.size ≤ k_ → (fun k_ => (w.heap.size ≤ k_) ∧ k_ ≠ gb281 ∧ k_ ≠ g) k_ from fun k_ hk => ⟨(Nat.le_trans (keep_size (w := w) (g := g) (row := none) zcj_9) hk), Kd.freshB (g := gb281) (o := .cells #[.int .i64 a1_0, .slice A1_1 l1_1.length c1_1] 47 (0, 0)) zcj_19 k_ hk, IsS63.fresh zcj_15 k_ hk⟩) _ (Nat.le_refl _)) (Below.refl _ _) (Nat.le_refl _) (by simp) ?_; (case hd => rfl); (case hg => rfl); (case hr => exact zcj_12); (case hp => exact (Reps.one (show Kd.FK (Kd.slice 77 k77) _ _ y284 [.slice Ao25 y284.length co25] from (Kd.FK_slice_mk (Kd.R_reads' (Kd.R_mono (ok' := (fun k_ => (w.heap.size ≤ k_) ∧ k_ ≠ gb281 ∧ k_ ≠ g)) (IsS63.apart HI0.out (Kd.R_types (HO286.out) BK281.out (by decide)) (by decide)) (fun k_ hk => ⟨hk.1.1.1.1.1.1, ⟨hk.1.2, hk.2⟩⟩))).2.1 (Kd.R_F (Kd.R_mono (ok' := (fun k_ => (w.heap.size ≤ k_) ∧ k_ ≠ gb281 ∧ k_ ≠ g)) (IsS63.apart HI0.out (Kd.R_types (HO286.out) BK281.out (by decide)) (by decide)) (fun k_ hk => ⟨hk.1.1.1.1.1.1, ⟨hk.1.2, hk.2⟩⟩))))) (Reps.one (show Kd.FK (Kd.slice 77 k77) _ _ y287 [.slice Ao26 y287.length co26] from (Kd.FK_slice_mk (Kd.R_reads' (Kd.R_mono (ok' := (fun k_ => (w.heap.size ≤ k_) ∧ k_ ≠ gb281 ∧ k_ ≠ g)) (IsS63.apart HI0.out (Kd.R_types (HO289.out) BK281.out (by decide)) (by decide)) (fun k_ hk => ⟨hk.1.1.1.1.1.1, ⟨hk.1.2, hk.2⟩⟩))).2.1 (Kd.R_F (Kd.R_mono (ok' := (fun k_ => (w.heap.size ≤ k_) ∧ k_ ≠ gb281 ∧ k_ ≠ g)) (IsS63.apart HI0.out (Kd.R_types (HO289.out) BK281.out (by decide)) (by decide)) (fun k_ hk => ⟨hk.1.1.1.1.1.1, ⟨hk.1.2, hk.2⟩⟩))))) (Reps.one (show Kd.FK (Kd.slice 77 k77) _ _ y290 [.slice Ao27 y290.length co27] from (Kd.FK_slice_mk (Kd.R_reads' (Kd.R_mono (ok' := (fun k_ => (w.heap.size ≤ k_) ∧ k_ ≠ gb281 ∧ k_ ≠ g)) (IsS63.apart HI0.out (Kd.R_types (HO292.out) BK281.out (by decide)) (by decide)) (fun k_ hk => ⟨hk.1.1.1.1.1.1, ⟨hk.1.2, hk.2⟩⟩))).2.1 (Kd.R_F (Kd.R_mono (ok' := (fun k_ => (w.heap.size ≤ k_) ∧ k_ ≠ gb281 ∧ k_ ≠ g)) (IsS63.apart HI0.out (Kd.R_types (HO292.out) BK281.out (by decide)) (by decide)) (fun k_ hk => ⟨hk.1.1.1.1.1.1, ⟨hk.1.2, hk.2⟩⟩))))) (Reps.one (show Kd.FK (Kd.slice 77 k77) _ _ y293 [.slice Ao28 y293.length co28] from (Kd.FK_slice_mk (Kd.R_reads' (Kd.R_mono (ok' := (fun k_ => (w.heap.size ≤ k_) ∧ k_ ≠ gb281 ∧ k_ ≠ g)) (IsS63.apart HI0.out (Kd.R_types (HO295.out) BK281.out (by decide)) (by decide)) (fun k_ hk => ⟨hk.1.1.1.1.1.1, ⟨hk.1.2, hk.2⟩⟩))).2.1 (Kd.R_F (Kd.R_mono (ok' := (fun k_ => (w.heap.size ≤ k_) ∧ k_ ≠ gb281 ∧ k_ ≠ g)) (IsS63.apart HI0.out (Kd.R_types (HO295.out) BK281.out (by decide)) (by decide)) (fun k_ hk => ⟨hk.1.1.1.1.1.1, ⟨hk.1.2, hk.2⟩⟩))))) (Reps.none _ _)))))); intro v297 w29 ho30 hb hg_ hnew_; clear hg_ hnew_; (first | rw [← Ny296.out] at ho30 | (simp only [Int.reduceToNat] at ho30; rw [← Ny296.out] at ho30)); have n0_ := Aside0.mk (Kd.N_lower ho30 (keep_size (w := w) (g := g) (row := none) zcj_9)); have n1_ := Aside0.mk (blk_below (g := gb281) (o := .cells #[.int .i64 a1_0, .slice A1_1 l1_1.length c1_1] 47 (0, 0)) zcj_19 hb); have n2_ := Aside0.mk (IsS63.below zcj_15 hb); have n3_ := Aside0.mk (KeepBut.trans zcj_9 (KeepBut.of_below hb g none) (.inl rfl)); have n4_ := Aside0.mk (below_step zcj_20 hb); clear BK281; clear HI0; clear HK; clear HB; clear HO286; clear HO289; clear HO292; clear HO295; have HO298 := n0_; have BK281 := n1_; have HI0 := n2_; have HK := n3_; have HB := n4_; clear n0_ n1_ n2_ n3_ n4_; clear hb ho30) | ((with_reducible refine gate_callee (f := 34) rfl ?_); refine goesL_ (some 32) rfl rfl Tryd.func34 (by kernel_rfl) rfl #[.pointer (some ⟨g, 0, none⟩), .int .i64 4] rfl zcj_3 ?_; (with_reducible refine (spec_l20Rd_pick.calls kj3 g s0_0 x1001_3 4 t299 t300 w0 _ ?side1 ?side2 A14.out).mono ?_); (case side1 => exact zcj_15); (case side2 => exact zcj_20); rintro e w31 ⟨rfl, hi, hb, hk⟩; refine ⟨_, rfl, ?_⟩; have n0_ := Aside0.mk (KeepBut.blk hk (g' := gb281) (o := .cells #[.int .i64 a1_0, .slice A1_1 l1_1.length c1_1] 47 (0, 0)) zcj_19 NB281_0.out (by simp)); have n1_ := Aside0.mk (Kd.N_mono (Kd.N_keep (Kd.N_mono (ok := fun k_ => (((w.heap.size ≤ k_)) ∧ (k_ ≠ gb281 ∧ k_ ≠ g))) (by (with_reducible repeat (first | apply Kd.N_alloc | apply Kd.N_drewN | apply Kd.N_drew)); exact HO298.out) (fun k_ hk_ => (⟨hk_, hk_.2.2⟩ : _ ∧ k_ ≠ g))) hk (fun _ h => h.2)) (fun _ h => h.1)); have n2_ := Aside0.mk (KeepBut.trans zcj_9 hk (.inl rfl)); have n3_ := Aside0.mk (hb); have n4_ := Aside0.mk (hi); clear BK281; clear HO298; clear HK; clear HB; clear HI0; have BK281 := n0_; have HO298 := n1_; have HK := n2_; have HB := n3_; have HI0 := n4_; clear n0_ n1_ n2_ n3_ n4_; (try clear hb); (try clear hb2); (try clear hk); (try clear hi); obtain ⟨Ao32, co32, eo32⟩ := Kd.N_slice HO298.out; subst eo32; have p301 : 0 ≤ (t299 : Int) := of_decide_eq_true zcj_2; have q301 : t299 < (y296.length : Int) := of_decide_eq_true zcj_2; obtain ⟨ad301, A301_0, c301_0, e301, hx301_0, hl301_0, hi301_0⟩ := at_L6 (Kd.N_reads' HO298.out).2.2 t299 p301 q301; cases e301; obtain ⟨ce301, hce301, hMe301, hcc301⟩ := Kd.N_get HO298.out [] t299 p301 (by first | exact q301 | exact of_decide_eq_true zcj_2 | (have e_ := (Kd.N_reads' HO298.out).1; omega)); obtain ⟨ua301_0, uc301_0, rfl, ul301_0, ge301_0⟩ := Kd.FK_slice_open hMe301; have hv301_0 := hcc301 0 _ rfl; rw [Nat.add_zero, show ((Kd.slice 77 k77)).sz = 1 from rfl, Nat.mul_one] at hv301_0; replace hv301_0 := Option.some.inj (hv301_0.symm.trans hx301_0); injection hv301_0 with hva_ hvn_ hvc_; rw [hva_] at ge301_0; rw [hvc_] at ul301_0; have HL301_0 := Aside0.mk (show Kd.V k77 77 _ w.heap.size _ _ (rd_L6 y296 t299) from Kd.V_mk ul301_0 ge301_0); clear hva_ hvn_ hvc_ ge301_0 ul301_0; clear hcc301 hce301; have HR301_0 := Aside0.mk hi301_0; have HC301_0 := Aside0.mk hl301_0; clear hi301_0 hl301_0; replace p301 := eq_true p301; replace q301 := eq_true q301))
 go_ret
 exact ⟨_, zcj_13, by (with_reducible repeat (first | apply Kd.V_alloc | apply Kd.V_drewN | apply Kd.V_drew)); exact Kd.V_mono HL301_0.out (fun _ hk => hk.1.1), zcj_15, zcj_20, zcj_9⟩
 }
 {
 rw [if_neg c16] at H
 exact absurd H (by simp)
 }
 }
 {
 rw [if_neg c15] at H
 exact absurd H (by simp)
 }
 }
 {
 replace c13 := Bool.eq_false_iff.mpr c13
 subst c13
 rw [if_neg (show ¬ (false = true) by decide)] at H
 obtain ⟨y302, hy302⟩ : ∃ y_ : List (List (S77)), y_ = (([] : List (List (S77)))) := ⟨_, rfl⟩
 replace H : ((spec_l20Rd_pick.f kj3 s0_0 x1001_3 4).bind fun bt305 => (spec_l20Term.l0 kj3 y302 (wrap64 (1 + bt305.1)) s0_0 bt305.2 a1_0 l1_1)) = some (r1, r2) := by first | (rw [hy302]; with_reducible exact H) | (have H2_ := (Option.bind_some _ _).symm.trans H; rw [hy302]; with_reducible exact H2_) | (have H2_ := (Option.bind_some _ _).symm.trans H; with_reducible exact H2_) | with_reducible exact H | (rw [hy302]; exact H) | exact H
 have Ny302 := Aside0.mk hy302
 clear hy302
 replace H := Option.bind_eq_some_iff.mp H
 obtain ⟨⟨t305, t306⟩, A330, H⟩ := H
 try dsimp only at H
 have A33 := Aside0.mk A330
 clear A330
 have H' := Aside0.mk H
 clear H
 go_wp2_with (first | ((with_reducible refine gate_dst (N := 35) rfl ?_); refine Kd.N_lit (Kd.slice 77 k77) _ 65 ?hg (N' := 35) ?hd (xs := ([] : List (List (S77)))) (inner := []) (ok := (fun k_ => (w.heap.size ≤ k_) ∧ k_ ≠ gb281 ∧ k_ ≠ g)) (okp := (fun k_ => (w.heap.size ≤ k_) ∧ k_ ≠ gb281 ∧ k_ ≠ g)) ?hr ?hp (fun _ hk => hk) ((show ∀ k_, wc.heap.size ≤ k_ → (fun k_ => (w.heap.size ≤ k_) ∧ k_ ≠ gb281 ∧ k_ ≠ g) k_ from fun k_ hk => ⟨(Nat.le_trans (keep_size (w := w) (g := g) (row := none) zcj_9) hk), Kd.freshB (g := gb281) (o := .cells #[.int .i64 a1_0, .slice A1_1 l1_1.length c1_1] 47 (0, 0)) zcj_19 k_ hk, IsS63.fresh zcj_15 k_ hk⟩) _ (Nat.le_refl _)) (Below.refl _ _) (Nat.le_refl _) (by simp) ?_; (case hd => rfl); (case hg => rfl); (case hr => exact zcj_12); (case hp => exact (Reps.none _ _)); intro v303 w34 ho35 hb hg_ hnew_; clear hg_ hnew_; (first | rw [← Ny302.out] at ho35 | (simp only [Int.reduceToNat] at ho35; rw [← Ny302.out] at ho35)); have n0_ := Aside0.mk (Kd.N_lower ho35 (keep_size (w := w) (g := g) (row := none) zcj_9)); have n1_ := Aside0.mk (blk_below (g := gb281) (o := .cells #[.int .i64 a1_0, .slice A1_1 l1_1.length c1_1] 47 (0, 0)) zcj_19 hb); have n2_ := Aside0.mk (IsS63.below zcj_15 hb); have n3_ := Aside0.mk (KeepBut.trans zcj_9 (KeepBut.of_below hb g none) (.inl rfl)); have n4_ := Aside0.mk (below_step zcj_20 hb); clear BK281; clear HI0; clear HK; clear HB; have HO304 := n0_; have BK281 := n1_; have HI0 := n2_; have HK := n3_; have HB := n4_; clear n0_ n1_ n2_ n3_ n4_; clear hb ho35) | ((with_reducible refine gate_callee (f := 34) rfl ?_); refine goesL_ (some 37) rfl rfl Tryd.func34 (by kernel_rfl) rfl #[.pointer (some ⟨g, 0, none⟩), .int .i64 4] rfl zcj_3 ?_; (with_reducible refine (spec_l20Rd_pick.calls kj3 g s0_0 x1001_3 4 t305 t306 w0 _ ?side1 ?side2 A33.out).mono ?_); (case side1 => exact zcj_15); (case side2 => exact zcj_20); rintro e w36 ⟨rfl, hi, hb, hk⟩; refine ⟨_, rfl, ?_⟩; have n0_ := Aside0.mk (KeepBut.blk hk (g' := gb281) (o := .cells #[.int .i64 a1_0, .slice A1_1 l1_1.length c1_1] 47 (0, 0)) zcj_19 NB281_0.out (by simp)); have n1_ := Aside0.mk (Kd.N_mono (Kd.N_keep (Kd.N_mono (ok := fun k_ => (((w.heap.size ≤ k_)) ∧ (k_ ≠ gb281 ∧ k_ ≠ g))) zcj_147 (fun k_ hk_ => (⟨hk_, hk_.2.2⟩ : _ ∧ k_ ≠ g))) hk (fun _ h => h.2)) (fun _ h => h.1)); have n2_ := Aside0.mk (KeepBut.trans zcj_9 hk (.inl rfl)); have n3_ := Aside0.mk (hb); have n4_ := Aside0.mk (hi); clear BK281; clear HO304; clear HK; clear HB; clear HI0; have BK281 := n0_; have HO304 := n1_; have HK := n2_; have HB := n3_; have HI0 := n4_; clear n0_ n1_ n2_ n3_ n4_; (try clear hb); (try clear hb2); (try clear hk); (try clear hi)))
 go_loopg [7, 8] kj3 (fun kq v7 v8 w' => ∃ (x7_2 : List (List (S77))) (x8_2 : Int) (x1001_2 : Int), v8 = .int .i64 x8_2 ∧ Aside0 (spec_l20Term.l0 kq x7_2 x8_2 s0_0 x1001_2 a1_0 l1_1 = some (r1, r2)) ∧ Aside0 (kq ≤ kj3) ∧ Aside0 (Kd.N (Kd.slice 77 k77) 65 w' w.heap.size (fun k_ => (w.heap.size ≤ k_) ∧ k_ ≠ gb281 ∧ k_ ≠ g) v7 x7_2) ∧ Aside0 (w'.heap[gb281]? = some (.cells #[.int .i64 a1_0, (.slice A1_1 l1_1.length c1_1)] 47 (0, 0))) ∧ Aside0 (IsS63 w0 w' g s0_0 x1001_2) ∧ Aside0 (KeepBut w w' g none) ∧ Aside0 (Below w0.heap.size w0 w'))
 case atStart => exact ⟨(y302), (wrap64 (1 + t305)), (t306), zcj_4, H', ⟨Nat.le_refl _⟩, ⟨zcj_147⟩, ⟨zcj_19⟩, ⟨zcj_15⟩, ⟨zcj_9⟩, ⟨zcj_20⟩⟩
 case round =>(
 clear H'
 obtain ⟨x7_2, x8_2, x1001_2, rfl, HA, HK2, HO_7, BK281, HI0, HK, HB⟩ := hrel
 cases gk with
 | zero => exact absurd HA.out (by simp [spec_l20Term.l0])
 | succ k2 =>(
 have H := HA.out
 clear HA
 simp only [spec_l20Term.l0] at H
 by_cases c37 : x8_2 > 0
 {
 rw [if_pos c37] at H
 have c37b0 : decide (0 < x8_2) = true := decide_eq_true c37
 clear c37
 replace H := Option.bind_eq_some_iff.mp H
 obtain ⟨⟨t307, t308⟩, A380, H⟩ := H
 try dsimp only at H
 have A38 := Aside0.mk A380
 clear A380
 by_cases c39 : 0 ≤ t307
 {
 rw [if_pos c39] at H
 have c39b0 : decide (0 ≤ t307) = true := decide_eq_true c39
 clear c39
 by_cases c40 : t307 < (l1_1.length : Int)
 {
 rw [if_pos c40] at H
 have c40b0 : decide (t307 < (l1_1.length : Int)) = true := decide_eq_true c40
 clear c40
 obtain ⟨ji41, hji41⟩ : ∃ j_ : Int, (mx (rd l1_1 t307) 0) = j_ := ⟨_, rfl⟩
 replace H : ((spec_l1Heads.f k2 (ji41)).bind fun t310 => ((spec_l20Rd_pick.f k2 s0_0 t308 (mx t310 1)).bind fun bt311 => (if x7_2.length < 5864062014805 then (spec_l20Term.l0 k2 (x7_2 ++ [(([(⟨0, t307, wrap64 (1 + bt311.1)⟩ : S77)] : List (S77)))]) (wrap64 (x8_2 - 1)) s0_0 bt311.2 a1_0 l1_1) else (none)))) = some (r1, r2) := by first | (rw [hji41] at H; exact H) | (simp only [hji41] at H ⊢; exact H)
 (try rw [hji41] at A38)
 have hji41_ : (if (rd l1_1 t307) < 0 then 0 else (rd l1_1 t307)) = ji41 := hji41
 replace H := Option.bind_eq_some_iff.mp H
 obtain ⟨t310, A420, H⟩ := H
 try dsimp only at H
 have A42 := Aside0.mk A420
 clear A420
 obtain ⟨ji43, hji43⟩ : ∃ j_ : Int, (mx t310 1) = j_ := ⟨_, rfl⟩
 replace H : ((spec_l20Rd_pick.f k2 s0_0 t308 (ji43)).bind fun bt311 => (if x7_2.length < 5864062014805 then (spec_l20Term.l0 k2 (x7_2 ++ [(([(⟨0, t307, wrap64 (1 + bt311.1)⟩ : S77)] : List (S77)))]) (wrap64 (x8_2 - 1)) s0_0 bt311.2 a1_0 l1_1) else (none))) = some (r1, r2) := by first | (rw [hji43] at H; exact H) | (simp only [hji43] at H ⊢; exact H)
 (try rw [hji43] at A38)
 (try rw [hji43] at A42)
 (try (have hji43l : 1 ≤ ji43 := by (rw [← hji43]; unfold mx; (repeat' split) <;> omega)))
 (try (have hji43m : 0 ≤ ji43 := by omega))
 have hji43_ : (if t310 < 1 then 1 else t310) = ji43 := hji43
 replace H := Option.bind_eq_some_iff.mp H
 obtain ⟨⟨t311, t312⟩, A440, H⟩ := H
 try dsimp only at H
 have A44 := Aside0.mk A440
 clear A440
 obtain ⟨y313, hy313⟩ : ∃ y_ : List (S77), y_ = (([(⟨0, t307, wrap64 (1 + t311)⟩ : S77)] : List (S77))) := ⟨_, rfl⟩
 replace H : (if x7_2.length < 5864062014805 then (spec_l20Term.l0 k2 (x7_2 ++ [y313]) (wrap64 (x8_2 - 1)) s0_0 t312 a1_0 l1_1) else (none)) = some (r1, r2) := by first | (rw [hy313]; with_reducible exact H) | (have H2_ := (Option.bind_some _ _).symm.trans H; rw [hy313]; with_reducible exact H2_) | (have H2_ := (Option.bind_some _ _).symm.trans H; with_reducible exact H2_) | with_reducible exact H | (rw [hy313]; exact H) | exact H
 have Ny313 := Aside0.mk hy313
 clear hy313
 by_cases c45 : x7_2.length < 5864062014805
 {
 rw [if_pos c45] at H
 have LMc45 := Aside0.mk c45
 clear c45
 obtain ⟨y316, hy316⟩ : ∃ y_ : List (List (S77)), y_ = (x7_2 ++ [y313]) := ⟨_, rfl⟩
 replace H : (spec_l20Term.l0 k2 y316 (wrap64 (x8_2 - 1)) s0_0 t312 a1_0 l1_1) = some (r1, r2) := by first | (rw [hy316]; with_reducible exact H) | (have H2_ := (Option.bind_some _ _).symm.trans H; rw [hy316]; with_reducible exact H2_) | (have H2_ := (Option.bind_some _ _).symm.trans H; with_reducible exact H2_) | with_reducible exact H | (rw [hy316]; exact H) | exact H
 have Ny316 := Aside0.mk hy316
 clear hy316
 have H' := Aside0.mk H
 clear H
 have hnb46 := NB281_0.out
 have hnc46 := NB0_281.out
 have hcz47_0 : wr.cell? ⟨gb281, 0, none⟩ = some (.int .i64 a1_0) := (blk_cell BK281.out 0).trans rfl
 have hcz47_1 : wr.cell? ⟨gb281, 1, none⟩ = some (.slice A1_1 l1_1.length c1_1) := (blk_cell BK281.out 1).trans rfl
 have hfz47_0 := blk_frozen BK281.out 0
 have hfz47_1 := blk_frozen BK281.out 1
 go_wp2_with (first | ((with_reducible refine gate_callee (f := 34) rfl ?_); refine goesL_ (some 47) rfl rfl Tryd.func34 (by kernel_rfl) rfl #[.pointer (some ⟨g, 0, none⟩), .int .i64 (l1_1.length : Int)] rfl zcj_3 ?_; (with_reducible refine (spec_l20Rd_pick.calls k2 g s0_0 x1001_2 (l1_1.length : Int) t307 t308 w0 _ ?side1 ?side2 A38.out).mono ?_); (case side1 => exact zcj_15); (case side2 => exact zcj_20); rintro e w48 ⟨rfl, hi, hb, hk⟩; refine ⟨_, rfl, ?_⟩; refine zcj_f24 ?_; clear HO_7; clear BK281; clear HK; clear HB; clear HI0; intro HO_7 BK281 HK HB HI0; (try clear hb); (try clear hb2); (try clear hk); (try clear hi); have hcz49_0 : w48.cell? ⟨gb281, 0, none⟩ = some (.int .i64 a1_0) := (blk_cell BK281.out 0).trans rfl; have hcz49_1 : w48.cell? ⟨gb281, 1, none⟩ = some (.slice A1_1 l1_1.length c1_1) := (blk_cell BK281.out 1).trans rfl; have hfz49_0 := blk_frozen BK281.out 0; have hfz49_1 := blk_frozen BK281.out 1; have p309 : 0 ≤ (t307 : Int) := of_decide_eq_true zcj_2; have q309 : t307 < (l1_1.length : Int) := of_decide_eq_true zcj_2; obtain ⟨ad309, e309, hx309_0⟩ := Kd.at_int HR1_1.out t307 p309 q309; cases e309; replace hx309_0 := keep_cell HK.out hx309_0 (by first | (rw [add_block]; exact hf1_1 _ rfl (by omega)) | exact hf1_1 _ rfl (by omega) | exact hf1_1 ad309 rfl (by omega)); replace p309 := eq_true p309; replace q309 := eq_true q309) | ((with_reducible refine gate_callee (f := 54) rfl ?_); refine goesL_ (some 57) rfl rfl Tryd.func54 (by kernel_rfl) rfl #[.int .i64 ji41] rfl (by (try simp only [List.map_toArray, List.map_cons, List.map_nil]); first | done | (simp only [hji41]; rfl) | rfl | (simp only [List.length_drop, List.length_take]; rfl)) ?_; (with_reducible refine (spec_l1Heads.calls k2 ji41 t310 _ A42.out).mono ?_); rintro e w' ⟨rfl, ⟨nd, rfl⟩⟩; refine ⟨_, rfl, ?_⟩) | ((with_reducible refine gate_callee (f := 34) rfl ?_); refine goesL_ (some 59) rfl rfl Tryd.func34 (by kernel_rfl) rfl #[.pointer (some ⟨g, 0, none⟩), .int .i64 ji43] rfl (by (try simp only [List.map_toArray, List.map_cons, List.map_nil]); first | done | (simp only [hji43]; rfl) | rfl | (simp only [List.length_drop, List.length_take]; rfl)) ?_; (with_reducible refine (spec_l20Rd_pick.calls k2 g s0_0 t308 ji43 t311 t312 w0 _ ?side1 ?side2 A44.out).mono ?_); (case side1 => exact zcj_15); (case side2 => exact zcj_20); rintro e w50 ⟨rfl, hi, hb, hk⟩; refine ⟨_, rfl, ?_⟩; have n0_ := Aside0.mk (Kd.N_mono (Kd.N_keep (Kd.N_mono (ok := fun k_ => (((w.heap.size ≤ k_)) ∧ (k_ ≠ gb281 ∧ k_ ≠ g))) zcj_40 (fun k_ hk_ => (⟨hk_, hk_.2.2⟩ : _ ∧ k_ ≠ g))) hk (fun _ h => h.2)) (fun _ h => h.1)); have n1_ := Aside0.mk (KeepBut.blk hk (g' := gb281) (o := .cells #[.int .i64 a1_0, .slice (some ad309) l1_1.length c1_1] 47 (0, 0)) zcj_19 NB281_0.out (by simp)); have n2_ := Aside0.mk (KeepBut.trans zcj_9 hk (.inl rfl)); have n3_ := Aside0.mk (hb); have n4_ := Aside0.mk (hi); clear HO_7; clear BK281; clear HK; clear HB; clear HI0; have HO_7 := n0_; have BK281 := n1_; have HK := n2_; have HB := n3_; have HI0 := n4_; clear n0_ n1_ n2_ n3_ n4_; (try clear hb); (try clear hb2); (try clear hk); (try clear hi)) | ((with_reducible refine gate_dst (N := 62) rfl ?_); refine Kd.R_lit k77 _ 77 ?hg (N := 62) ?hd (xs := ([(⟨0, t307, wrap64 (1 + t311)⟩ : S77)] : List (S77))) (inner := [.int .i64 0, .int .i64 t307, .int .i64 (wrap64 (1 + t311))]) (ok := fun _ => True) (okp := fun _ => True) ?hr ?hp (fun _ hk => hk) trivial (Below.refl _ _) (Nat.le_refl _) (by simp) ?_; (case hd => rfl); (case hg => rfl); (case hr => exact zcj_12); (case hp => exact (Reps.c3 (show Kd.M k77 _ _ _ (⟨0, t307, wrap64 (1 + t311)⟩ : S77) [.int .i64 0, .int .i64 t307, .int .i64 (wrap64 (1 + t311))] from (k77_mkM _ _ _ (⟨0, t307, wrap64 (1 + t311)⟩ : S77) )) (Reps.none _ _))); intro v314 w51 ho52 hb hg_ hnew_; clear hg_ hnew_; (first | rw [← Ny313.out] at ho52 | (simp only [Int.reduceToNat] at ho52; rw [← Ny313.out] at ho52)); have n0_ := Aside0.mk (Kd.N_elder' zcj_40 (Kd.R_base ho52) hb); have n1_ := Aside0.mk (Kd.R_lower (Kd.R_newM (M := fun k_ => (w.heap.size ≤ k_)) ho52 (keep_size (w := w) (g := g) (row := none) zcj_9) (fun k_ h_ => h_)) (keep_size (w := w) (g := g) (row := none) zcj_9)); have n2_ := Aside0.mk (blk_below (g := gb281) (o := .cells #[.int .i64 a1_0, .slice (some ad309) l1_1.length c1_1] 47 (0, 0)) zcj_19 hb); have n3_ := Aside0.mk (IsS63.below zcj_15 hb); have n4_ := Aside0.mk (KeepBut.trans zcj_9 (KeepBut.of_below hb g none) (.inl rfl)); have n5_ := Aside0.mk (below_step zcj_20 hb); clear HO_7; clear BK281; clear HI0; clear HK; clear HB; have HO_7 := n0_; have HO315 := n1_; have BK281 := n2_; have HI0 := n3_; have HK := n4_; have HB := n5_; clear n0_ n1_ n2_ n3_ n4_ n5_; clear hb ho52; obtain ⟨Ao54, co54, eo54⟩ := Kd.R_slice HO315.out; subst eo54) | ((with_reducible refine gate_builtin (b := .append) (xs := #[.tmp 48, .tmp 63]) rfl ?_); at_builtin; refine Kd.N_append (Kd.slice 77 k77) w.heap.size rfl (.tmp 48) (.tmp 63) 78 65 (.slice none 0 0) 24 rfl Tryd.underlying78 info65 rfl (by decide) (by omega) u7 x7_2 y313 [.slice Ao54 y313.length co54] (fun k_ => (w.heap.size ≤ k_) ∧ k_ ≠ gb281 ∧ k_ ≠ g) (fun k_ => ((fun k_ => (w.heap.size ≤ k_) ∧ k_ ≠ gb281 ∧ k_ ≠ g)) k_ ∧ some k_ ≠ (u7 : Value).ownBlock) rfl rfl ?aP (fun _ hk => hk) ?aF ?aO (Below.refl _ _) ?aS ?aL ?_; (case aP => exact (Kd.FK_slice_mk (Kd.R_reads' (Kd.R_mono (ok' := (fun k_ => ((fun k_ => (w.heap.size ≤ k_) ∧ k_ ≠ gb281 ∧ k_ ≠ g)) k_ ∧ some k_ ≠ (u7 : Value).ownBlock)) (IsS63.apart HI0.out (Kd.R_types (Kd.R_apart' (HO315.out) (Kd.N_typed HO_7.out) (by decide)) BK281.out (by decide)) (by decide)) (fun k_ hk => ⟨⟨hk.1.1.1.1, ⟨hk.1.2, hk.2⟩⟩, hk.1.1.2⟩))).2.1 (Kd.R_F (Kd.R_mono (ok' := (fun k_ => ((fun k_ => (w.heap.size ≤ k_) ∧ k_ ≠ gb281 ∧ k_ ≠ g)) k_ ∧ some k_ ≠ (u7 : Value).ownBlock)) (IsS63.apart HI0.out (Kd.R_types (Kd.R_apart' (HO315.out) (Kd.N_typed HO_7.out) (by decide)) BK281.out (by decide)) (by decide)) (fun k_ hk => ⟨⟨hk.1.1.1.1, ⟨hk.1.2, hk.2⟩⟩, hk.1.1.2⟩))))); (case aF => exact (fun k_ hk => ⟨(Nat.le_trans (keep_size (w := w) (g := g) (row := none) zcj_9) hk), Kd.freshB (g := gb281) (o := .cells #[.int .i64 a1_0, .slice (some ad309) l1_1.length c1_1] 47 (0, 0)) zcj_19 k_ hk, IsS63.fresh zcj_15 k_ hk⟩)); (case aO => exact (by (with_reducible repeat (first | apply Kd.N_alloc | apply Kd.N_drewN | apply Kd.N_drew)); exact Kd.N_mono HO_7.out (fun _ hk => ⟨hk.1.1, ⟨hk.1.2.1, hk.1.2.2⟩⟩))); (case aS => exact zcj_58); (case aL => have := LMc45.out; omega); intro v317 w53 ho hb hg hat; rw [← Ny316.out] at ho; have n0_ := Aside0.mk (blk_grown (g := gb281) (o := .cells #[.int .i64 a1_0, .slice (some ad309) l1_1.length c1_1] 47 (0, 0)) zcj_19 hg (Kd.N_ne HO_7.out BK281.out (by decide))); have n1_ := Aside0.mk (IsS63.grown zcj_15 hg (IsS63.own_neN HI0.out HO_7.out (by decide))); have n2_ := Aside0.mk (below_weaken zcj_20 HL.out hb); have n3_ := Aside0.mk (KeepBut.trans zcj_9 (KeepBut.of_grown hg g) (Kd.N_base2 HO_7.out)); have n4_ := Aside0.mk (ho); clear BK281; clear HI0; clear HB; clear HK; clear HO_7; clear HO315; have BK281 := n0_; have HI0 := n1_; have HB := n2_; have HK := n3_; have HO318 := n4_; clear n0_ n1_ n2_ n3_ n4_; clear ho hb hg hat))
 go_roundg k2
 case measure => have := HJ3.out; have := HK2.out; omega
 case rel => exact ⟨(y316), (wrap64 (x8_2 - 1)), (t312), zcj_4, H', ⟨by have := HJ3.out; have := HK2.out; omega⟩, ⟨by (with_reducible repeat (first | apply Kd.N_alloc | apply Kd.N_drewN | apply Kd.N_drew)); exact HO318.out⟩, ⟨zcj_19⟩, ⟨zcj_15⟩, ⟨zcj_9⟩, ⟨zcj_20⟩⟩
 }
 {
 rw [if_neg c45] at H
 exact absurd H (by simp)
 }
 }
 {
 rw [if_neg c40] at H
 exact absurd H (by simp)
 }
 }
 {
 rw [if_neg c39] at H
 exact absurd H (by simp)
 }
 }
 {
 rw [if_neg c37] at H
 have c37b0 : decide (0 < x8_2) = false := decide_eq_false c37
 clear c37
 have H' := Aside0.mk H
 clear H
 go_wp2
 go_loopg [7] k2 (fun kq v7 w' => ∃ (x7_3 : List (List (S77))) (x1001_3 : Int), Aside0 (spec_l20Term.l1 kq x7_3 s0_0 x1001_3 = some (r1, r2)) ∧ Aside0 (kq ≤ k2) ∧ Aside0 (Kd.N (Kd.slice 77 k77) 65 w' w.heap.size (fun k_ => (w.heap.size ≤ k_) ∧ k_ ≠ gb281 ∧ k_ ≠ g) v7 x7_3) ∧ Aside0 (w'.heap[gb281]? = some (.cells #[.int .i64 a1_0, (.slice A1_1 l1_1.length c1_1)] 47 (0, 0))) ∧ Aside0 (IsS63 w0 w' g s0_0 x1001_3) ∧ Aside0 (KeepBut w w' g none) ∧ Aside0 (Below w0.heap.size w0 w'))
 case atStart => exact ⟨(x7_2), (x1001_2), H', ⟨Nat.le_refl _⟩, ⟨zcj_40⟩, ⟨zcj_19⟩, ⟨zcj_15⟩, ⟨zcj_9⟩, ⟨zcj_20⟩⟩
 case round =>(
 clear H'
 obtain ⟨x7_3, x1001_3, HA, HK3, HO_7, BK281, HI0, HK, HB⟩ := hrel
 cases gk with
 | zero => exact absurd HA.out (by simp [spec_l20Term.l1])
 | succ k3 =>(
 have H := HA.out
 clear HA
 simp only [spec_l20Term.l1] at H
 by_cases c55 : (x7_3.length : Int) > 1
 {
 rw [if_pos c55] at H
 have c55b0 : decide (1 < (x7_3.length : Int)) = true := decide_eq_true c55
 have c55b1 : decide (1 < x7_3.length) = true := decide_eq_true (by omega)
 clear c55
 replace H := Option.bind_eq_some_iff.mp H
 obtain ⟨⟨t319, t320⟩, A560, H⟩ := H
 try dsimp only at H
 have A56 := Aside0.mk A560
 clear A560
 obtain ⟨y321, hy321⟩ : ∃ y_ : List (S77), y_ = (([] : List (S77))) := ⟨_, rfl⟩
 replace H : (if 0 ≤ t319 then (if t319 < (x7_3.length : Int) then (if y321.length + (rd_L6 x7_3 t319).length < 5864062014805 then ((some (y321 ++ (rd_L6 x7_3 t319) : List (S77))).bind fun y325 => (if 0 ≤ (wrap64 (t319 + 1)) then (if (wrap64 (t319 + 1)) < (x7_3.length : Int) then (if y325.length + (rd_L6 x7_3 (wrap64 (t319 + 1))).length < 5864062014805 then ((some (y325 ++ (rd_L6 x7_3 (wrap64 (t319 + 1))) : List (S77))).bind fun y329 => ((spec_l20Rd_pick.f k3 s0_0 t320 2).bind fun bt332 => (if y329.length < 5864062014805 then ((some (([] : List (List (S77))) : List (List (S77)))).bind fun y337 => (if t319 ≤ (x7_3.length : Int) then ((some (x7_3.take (t319 : Int).toNat : List (List (S77)))).bind fun y340 => (if y337.length + y340.length < 5864062014805 then ((some (y337 ++ y340 : List (List (S77)))).bind fun y345 => (if y345.length < 5864062014805 then ((some (y345 ++ [(y329 ++ [(⟨wrap64 (1 + bt332.1), 0, 0⟩ : S77)])] : List (List (S77)))).bind fun y348 => (if 0 ≤ (wrap64 (t319 + 2)) then (if (wrap64 (t319 + 2)) ≤ (x7_3.length : Int) then ((some (x7_3.drop ((wrap64 (t319 + 2)) : Int).toNat : List (List (S77)))).bind fun y351 => (if y348.length + y351.length < 5864062014805 then (spec_l20Term.l1 k3 (y348 ++ y351) s0_0 bt332.2) else (none))) else (none)) else (none))) else (none))) else (none))) else (none))) else (none)))) else (none)) else (none)) else (none))) else (none)) else (none)) else (none)) = some (r1, r2) := by first | (rw [hy321]; with_reducible exact H) | (have H2_ := (Option.bind_some _ _).symm.trans H; rw [hy321]; with_reducible exact H2_) | (have H2_ := (Option.bind_some _ _).symm.trans H; with_reducible exact H2_) | with_reducible exact H | (rw [hy321]; exact H) | exact H
 have Ny321 := Aside0.mk hy321
 clear hy321
 by_cases c57 : 0 ≤ t319
 {
 rw [if_pos c57] at H
 have c57b0 : decide (0 ≤ t319) = true := decide_eq_true c57
 clear c57
 by_cases c58 : t319 < (x7_3.length : Int)
 {
 rw [if_pos c58] at H
 have c58b0 : decide (t319 < (x7_3.length : Int)) = true := decide_eq_true c58
 clear c58
 by_cases c59 : y321.length + (rd_L6 x7_3 t319).length < 5864062014805
 {
 rw [if_pos c59] at H
 have LMc59 := Aside0.mk c59
 clear c59
 obtain ⟨y325, hy325⟩ : ∃ y_ : List (S77), y_ = (y321 ++ (rd_L6 x7_3 t319)) := ⟨_, rfl⟩
 replace H : (if 0 ≤ (wrap64 (t319 + 1)) then (if (wrap64 (t319 + 1)) < (x7_3.length : Int) then (if y325.length + (rd_L6 x7_3 (wrap64 (t319 + 1))).length < 5864062014805 then ((some (y325 ++ (rd_L6 x7_3 (wrap64 (t319 + 1))) : List (S77))).bind fun y329 => ((spec_l20Rd_pick.f k3 s0_0 t320 2).bind fun bt332 => (if y329.length < 5864062014805 then ((some (([] : List (List (S77))) : List (List (S77)))).bind fun y337 => (if t319 ≤ (x7_3.length : Int) then ((some (x7_3.take (t319 : Int).toNat : List (List (S77)))).bind fun y340 => (if y337.length + y340.length < 5864062014805 then ((some (y337 ++ y340 : List (List (S77)))).bind fun y345 => (if y345.length < 5864062014805 then ((some (y345 ++ [(y329 ++ [(⟨wrap64 (1 + bt332.1), 0, 0⟩ : S77)])] : List (List (S77)))).bind fun y348 => (if 0 ≤ (wrap64 (t319 + 2)) then (if (wrap64 (t319 + 2)) ≤ (x7_3.length : Int) then ((some (x7_3.drop ((wrap64 (t319 + 2)) : Int).toNat : List (List (S77)))).bind fun y351 => (if y348.length + y351.length < 5864062014805 then (spec_l20Term.l1 k3 (y348 ++ y351) s0_0 bt332.2) else (none))) else (none)) else (none))) else (none))) else (none))) else (none))) else (none)))) else (none)) else (none)) else (none)) = some (r1, r2) := by first | (rw [hy325]; with_reducible exact H) | (have H2_ := (Option.bind_some _ _).symm.trans H; rw [hy325]; with_reducible exact H2_) | (have H2_ := (Option.bind_some _ _).symm.trans H; with_reducible exact H2_) | with_reducible exact H | (rw [hy325]; exact H) | exact H
 have Ny325 := Aside0.mk hy325
 clear hy325
 obtain ⟨ji60, hji60⟩ : ∃ j_ : Int, (wrap64 (t319 + 1)) = j_ := ⟨_, rfl⟩
 replace H : (if 0 ≤ (ji60) then (if (ji60) < (x7_3.length : Int) then (if y325.length + (rd_L6 x7_3 (ji60)).length < 5864062014805 then ((some (y325 ++ (rd_L6 x7_3 (ji60)) : List (S77))).bind fun y329 => ((spec_l20Rd_pick.f k3 s0_0 t320 2).bind fun bt332 => (if y329.length < 5864062014805 then ((some (([] : List (List (S77))) : List (List (S77)))).bind fun y337 => (if t319 ≤ (x7_3.length : Int) then ((some (x7_3.take (t319 : Int).toNat : List (List (S77)))).bind fun y340 => (if y337.length + y340.length < 5864062014805 then ((some (y337 ++ y340 : List (List (S77)))).bind fun y345 => (if y345.length < 5864062014805 then ((some (y345 ++ [(y329 ++ [(⟨wrap64 (1 + bt332.1), 0, 0⟩ : S77)])] : List (List (S77)))).bind fun y348 => (if 0 ≤ (wrap64 (t319 + 2)) then (if (wrap64 (t319 + 2)) ≤ (x7_3.length : Int) then ((some (x7_3.drop ((wrap64 (t319 + 2)) : Int).toNat : List (List (S77)))).bind fun y351 => (if y348.length + y351.length < 5864062014805 then (spec_l20Term.l1 k3 (y348 ++ y351) s0_0 bt332.2) else (none))) else (none)) else (none))) else (none))) else (none))) else (none))) else (none)))) else (none)) else (none)) else (none)) = some (r1, r2) := by first | (rw [hji60] at H; exact H) | (simp only [hji60] at H ⊢; exact H)
 (try rw [hji60] at A56)
 have hji60w : (IntKind.i64.wrap (t319 + 1)) = ji60 := (i64_w _).trans hji60
 by_cases c61 : 0 ≤ (ji60)
 {
 rw [if_pos c61] at H
 have c61b0 : decide (0 ≤ (ji60)) = true := decide_eq_true c61
 clear c61
 by_cases c62 : (ji60) < (x7_3.length : Int)
 {
 rw [if_pos c62] at H
 have c62b0 : decide ((ji60) < (x7_3.length : Int)) = true := decide_eq_true c62
 clear c62
 by_cases c63 : y325.length + (rd_L6 x7_3 (ji60)).length < 5864062014805
 {
 rw [if_pos c63] at H
 have LMc63 := Aside0.mk c63
 clear c63
 obtain ⟨y329, hy329⟩ : ∃ y_ : List (S77), y_ = (y325 ++ (rd_L6 x7_3 (ji60))) := ⟨_, rfl⟩
 replace H : ((spec_l20Rd_pick.f k3 s0_0 t320 2).bind fun bt332 => (if y329.length < 5864062014805 then ((some (([] : List (List (S77))) : List (List (S77)))).bind fun y337 => (if t319 ≤ (x7_3.length : Int) then ((some (x7_3.take (t319 : Int).toNat : List (List (S77)))).bind fun y340 => (if y337.length + y340.length < 5864062014805 then ((some (y337 ++ y340 : List (List (S77)))).bind fun y345 => (if y345.length < 5864062014805 then ((some (y345 ++ [(y329 ++ [(⟨wrap64 (1 + bt332.1), 0, 0⟩ : S77)])] : List (List (S77)))).bind fun y348 => (if 0 ≤ (wrap64 (t319 + 2)) then (if (wrap64 (t319 + 2)) ≤ (x7_3.length : Int) then ((some (x7_3.drop ((wrap64 (t319 + 2)) : Int).toNat : List (List (S77)))).bind fun y351 => (if y348.length + y351.length < 5864062014805 then (spec_l20Term.l1 k3 (y348 ++ y351) s0_0 bt332.2) else (none))) else (none)) else (none))) else (none))) else (none))) else (none))) else (none))) = some (r1, r2) := by first | (rw [hy329]; with_reducible exact H) | (have H2_ := (Option.bind_some _ _).symm.trans H; rw [hy329]; with_reducible exact H2_) | (have H2_ := (Option.bind_some _ _).symm.trans H; with_reducible exact H2_) | with_reducible exact H | (rw [hy329]; exact H) | exact H
 have Ny329 := Aside0.mk hy329
 clear hy329
 replace H := Option.bind_eq_some_iff.mp H
 obtain ⟨⟨t332, t333⟩, A640, H⟩ := H
 try dsimp only at H
 have A64 := Aside0.mk A640
 clear A640
 by_cases c65 : y329.length < 5864062014805
 {
 rw [if_pos c65] at H
 have LMc65 := Aside0.mk c65
 clear c65
 obtain ⟨y334, hy334⟩ : ∃ y_ : List (S77), y_ = (y329 ++ [(⟨wrap64 (1 + t332), 0, 0⟩ : S77)]) := ⟨_, rfl⟩
 replace H : ((some (([] : List (List (S77))) : List (List (S77)))).bind fun y337 => (if t319 ≤ (x7_3.length : Int) then ((some (x7_3.take (t319 : Int).toNat : List (List (S77)))).bind fun y340 => (if y337.length + y340.length < 5864062014805 then ((some (y337 ++ y340 : List (List (S77)))).bind fun y345 => (if y345.length < 5864062014805 then ((some (y345 ++ [y334] : List (List (S77)))).bind fun y348 => (if 0 ≤ (wrap64 (t319 + 2)) then (if (wrap64 (t319 + 2)) ≤ (x7_3.length : Int) then ((some (x7_3.drop ((wrap64 (t319 + 2)) : Int).toNat : List (List (S77)))).bind fun y351 => (if y348.length + y351.length < 5864062014805 then (spec_l20Term.l1 k3 (y348 ++ y351) s0_0 t333) else (none))) else (none)) else (none))) else (none))) else (none))) else (none))) = some (r1, r2) := by first | (rw [hy334]; with_reducible exact H) | (have H2_ := (Option.bind_some _ _).symm.trans H; rw [hy334]; with_reducible exact H2_) | (have H2_ := (Option.bind_some _ _).symm.trans H; with_reducible exact H2_) | with_reducible exact H | (rw [hy334]; exact H) | exact H
 have Ny334 := Aside0.mk hy334
 clear hy334
 obtain ⟨y337, hy337⟩ : ∃ y_ : List (List (S77)), y_ = (([] : List (List (S77)))) := ⟨_, rfl⟩
 replace H : (if t319 ≤ (x7_3.length : Int) then ((some (x7_3.take (t319 : Int).toNat : List (List (S77)))).bind fun y340 => (if y337.length + y340.length < 5864062014805 then ((some (y337 ++ y340 : List (List (S77)))).bind fun y345 => (if y345.length < 5864062014805 then ((some (y345 ++ [y334] : List (List (S77)))).bind fun y348 => (if 0 ≤ (wrap64 (t319 + 2)) then (if (wrap64 (t319 + 2)) ≤ (x7_3.length : Int) then ((some (x7_3.drop ((wrap64 (t319 + 2)) : Int).toNat : List (List (S77)))).bind fun y351 => (if y348.length + y351.length < 5864062014805 then (spec_l20Term.l1 k3 (y348 ++ y351) s0_0 t333) else (none))) else (none)) else (none))) else (none))) else (none))) else (none)) = some (r1, r2) := by first | (rw [hy337]; with_reducible exact H) | (have H2_ := (Option.bind_some _ _).symm.trans H; rw [hy337]; with_reducible exact H2_) | (have H2_ := (Option.bind_some _ _).symm.trans H; with_reducible exact H2_) | with_reducible exact H | (rw [hy337]; exact H) | exact H
 have Ny337 := Aside0.mk hy337
 clear hy337
 have c66b0 := eq_true (of_decide_eq_true zcj_2 : 0 ≤ t319)
 by_cases c67 : t319 ≤ (x7_3.length : Int)
 {
 rw [if_pos c67] at H
 have c67b0 := eq_true c67
 have c67b1 : decide (t319 ≤ (x7_3.length : Int)) = true := decide_eq_true c67
 clear c67
 obtain ⟨y340, hy340⟩ : ∃ y_ : List (List (S77)), y_ = (x7_3.take (t319 : Int).toNat) := ⟨_, rfl⟩
 replace H : (if y337.length + y340.length < 5864062014805 then ((some (y337 ++ y340 : List (List (S77)))).bind fun y345 => (if y345.length < 5864062014805 then ((some (y345 ++ [y334] : List (List (S77)))).bind fun y348 => (if 0 ≤ (wrap64 (t319 + 2)) then (if (wrap64 (t319 + 2)) ≤ (x7_3.length : Int) then ((some (x7_3.drop ((wrap64 (t319 + 2)) : Int).toNat : List (List (S77)))).bind fun y351 => (if y348.length + y351.length < 5864062014805 then (spec_l20Term.l1 k3 (y348 ++ y351) s0_0 t333) else (none))) else (none)) else (none))) else (none))) else (none)) = some (r1, r2) := by first | (rw [hy340]; with_reducible exact H) | (have H2_ := (Option.bind_some _ _).symm.trans H; rw [hy340]; with_reducible exact H2_) | (have H2_ := (Option.bind_some _ _).symm.trans H; with_reducible exact H2_) | with_reducible exact H | (rw [hy340]; exact H) | exact H
 have Ny340 := Aside0.mk hy340
 clear hy340
 by_cases c68 : y337.length + y340.length < 5864062014805
 {
 rw [if_pos c68] at H
 have LMc68 := Aside0.mk c68
 clear c68
 obtain ⟨y345, hy345⟩ : ∃ y_ : List (List (S77)), y_ = (y337 ++ y340) := ⟨_, rfl⟩
 replace H : (if y345.length < 5864062014805 then ((some (y345 ++ [y334] : List (List (S77)))).bind fun y348 => (if 0 ≤ (wrap64 (t319 + 2)) then (if (wrap64 (t319 + 2)) ≤ (x7_3.length : Int) then ((some (x7_3.drop ((wrap64 (t319 + 2)) : Int).toNat : List (List (S77)))).bind fun y351 => (if y348.length + y351.length < 5864062014805 then (spec_l20Term.l1 k3 (y348 ++ y351) s0_0 t333) else (none))) else (none)) else (none))) else (none)) = some (r1, r2) := by first | (rw [hy345]; with_reducible exact H) | (have H2_ := (Option.bind_some _ _).symm.trans H; rw [hy345]; with_reducible exact H2_) | (have H2_ := (Option.bind_some _ _).symm.trans H; with_reducible exact H2_) | with_reducible exact H | (rw [hy345]; exact H) | exact H
 have Ny345 := Aside0.mk hy345
 clear hy345
 by_cases c69 : y345.length < 5864062014805
 {
 rw [if_pos c69] at H
 have LMc69 := Aside0.mk c69
 clear c69
 obtain ⟨y348, hy348⟩ : ∃ y_ : List (List (S77)), y_ = (y345 ++ [y334]) := ⟨_, rfl⟩
 replace H : (if 0 ≤ (wrap64 (t319 + 2)) then (if (wrap64 (t319 + 2)) ≤ (x7_3.length : Int) then ((some (x7_3.drop ((wrap64 (t319 + 2)) : Int).toNat : List (List (S77)))).bind fun y351 => (if y348.length + y351.length < 5864062014805 then (spec_l20Term.l1 k3 (y348 ++ y351) s0_0 t333) else (none))) else (none)) else (none)) = some (r1, r2) := by first | (rw [hy348]; with_reducible exact H) | (have H2_ := (Option.bind_some _ _).symm.trans H; rw [hy348]; with_reducible exact H2_) | (have H2_ := (Option.bind_some _ _).symm.trans H; with_reducible exact H2_) | with_reducible exact H | (rw [hy348]; exact H) | exact H
 have Ny348 := Aside0.mk hy348
 clear hy348
 obtain ⟨ji70, hji70⟩ : ∃ j_ : Int, (wrap64 (t319 + 2)) = j_ := ⟨_, rfl⟩
 replace H : (if 0 ≤ (ji70) then (if (ji70) ≤ (x7_3.length : Int) then ((some (x7_3.drop ((ji70) : Int).toNat : List (List (S77)))).bind fun y351 => (if y348.length + y351.length < 5864062014805 then (spec_l20Term.l1 k3 (y348 ++ y351) s0_0 t333) else (none))) else (none)) else (none)) = some (r1, r2) := by first | (rw [hji70] at H; exact H) | (simp only [hji70] at H ⊢; exact H)
 (try rw [hji70] at A56)
 (try rw [hji70] at A64)
 have hji70w : (IntKind.i64.wrap (t319 + 2)) = ji70 := (i64_w _).trans hji70
 by_cases c71 : 0 ≤ (ji70)
 {
 rw [if_pos c71] at H
 have c71b0 := eq_true c71
 have c71b1 : decide (0 ≤ (ji70)) = true := decide_eq_true c71
 clear c71
 by_cases c72 : (ji70) ≤ (x7_3.length : Int)
 {
 rw [if_pos c72] at H
 have c72b0 := eq_true c72
 have c72b1 : decide ((ji70) ≤ (x7_3.length : Int)) = true := decide_eq_true c72
 clear c72
 obtain ⟨y351, hy351⟩ : ∃ y_ : List (List (S77)), y_ = (x7_3.drop ((ji70) : Int).toNat) := ⟨_, rfl⟩
 replace H : (if y348.length + y351.length < 5864062014805 then (spec_l20Term.l1 k3 (y348 ++ y351) s0_0 t333) else (none)) = some (r1, r2) := by first | (rw [hy351]; with_reducible exact H) | (have H2_ := (Option.bind_some _ _).symm.trans H; rw [hy351]; with_reducible exact H2_) | (have H2_ := (Option.bind_some _ _).symm.trans H; with_reducible exact H2_) | with_reducible exact H | (rw [hy351]; exact H) | exact H
 have Ny351 := Aside0.mk hy351
 clear hy351
 by_cases c73 : y348.length + y351.length < 5864062014805
 {
 rw [if_pos c73] at H
 have LMc73 := Aside0.mk c73
 clear c73
 obtain ⟨y356, hy356⟩ : ∃ y_ : List (List (S77)), y_ = (y348 ++ y351) := ⟨_, rfl⟩
 replace H : (spec_l20Term.l1 k3 y356 s0_0 t333) = some (r1, r2) := by first | (rw [hy356]; with_reducible exact H) | (have H2_ := (Option.bind_some _ _).symm.trans H; rw [hy356]; with_reducible exact H2_) | (have H2_ := (Option.bind_some _ _).symm.trans H; with_reducible exact H2_) | with_reducible exact H | (rw [hy356]; exact H) | exact H
 have Ny356 := Aside0.mk hy356
 clear hy356
 have H' := Aside0.mk H
 clear H
 obtain ⟨Ao74, co74, eo74⟩ := Kd.N_slice HO_7.out
 subst eo74
 try go_wp2_with (first | ((with_reducible refine gate_callee (f := 34) rfl ?_); refine goesL_ (some 72) rfl rfl Tryd.func34 (by kernel_rfl) rfl #[.pointer (some ⟨g, 0, none⟩), .int .i64 (wrap64 ((x7_3.length : Int) - 1))] rfl zcj_3 ?_; (with_reducible refine (spec_l20Rd_pick.calls k3 g s0_0 x1001_3 (wrap64 ((x7_3.length : Int) - 1)) t319 t320 w0 _ ?side1 ?side2 A56.out).mono ?_); (case side1 => exact zcj_15); (case side2 => exact zcj_20); rintro e w75 ⟨rfl, hi, hb, hk⟩; refine ⟨_, rfl, ?_⟩; refine zcj_f24 ?_; clear HO_7; clear BK281; clear HK; clear HB; clear HI0; intro HO_7 BK281 HK HB HI0; (try clear hb); (try clear hb2); (try clear hk); (try clear hi)))
 have n0_ := Aside0.mk (Kd.N_drew HO_7.out)
 have n1_ := Aside0.mk (blk_drew BK281.out)
 have n2_ := Aside0.mk (IsS63.drew HI0.out)
 have n3_ := Aside0.mk (keep_drew HK.out)
 have n4_ := Aside0.mk (below_drew1 HB.out)
 clear HO_7
 clear BK281
 clear HI0
 clear HK
 clear HB
 have HO_7 := n0_
 have BK281 := n1_
 have HI0 := n2_
 have HK := n3_
 have HB := n4_
 clear n0_ n1_ n2_ n3_ n4_
 have p324 : 0 ≤ (t319 : Int) := of_decide_eq_true zcj_2
 have q324 : t319 < (x7_3.length : Int) := of_decide_eq_true zcj_2
 obtain ⟨ad324, A324_0, c324_0, e324, hx324_0, hl324_0, hi324_0⟩ := at_L6 (Kd.N_reads' HO_7.out).2.2 t319 p324 q324
 cases e324
 obtain ⟨ce324, hce324, hMe324, hcc324⟩ := Kd.N_get HO_7.out [] t319 p324 (by first | exact q324 | exact of_decide_eq_true zcj_2 | (have e_ := (Kd.N_reads' HO_7.out).1; omega))
 obtain ⟨ua324_0, uc324_0, rfl, ul324_0, ge324_0⟩ := Kd.FK_slice_open hMe324
 have hv324_0 := hcc324 0 _ rfl
 rw [Nat.add_zero, show ((Kd.slice 77 k77)).sz = 1 from rfl, Nat.mul_one] at hv324_0
 replace hv324_0 := Option.some.inj (hv324_0.symm.trans hx324_0)
 injection hv324_0 with hva_ hvn_ hvc_
 rw [hva_] at ge324_0
 rw [hvc_] at ul324_0
 have HL324_0 := Aside0.mk (show Kd.V k77 77 _ w.heap.size _ _ (rd_L6 x7_3 t319) from Kd.V_mk ul324_0 ge324_0)
 clear hva_ hvn_ hvc_ ge324_0 ul324_0
 clear hcc324 hce324
 have HR324_0 := Aside0.mk hi324_0
 have HC324_0 := Aside0.mk hl324_0
 clear hi324_0 hl324_0
 replace p324 := eq_true p324
 replace q324 := eq_true q324
 have p328 : 0 ≤ ((ji60) : Int) := of_decide_eq_true zcj_2
 have q328 : (ji60) < (x7_3.length : Int) := of_decide_eq_true zcj_2
 obtain ⟨ad328, A328_0, c328_0, e328, hx328_0, hl328_0, hi328_0⟩ := at_L6 (Kd.N_reads' HO_7.out).2.2 (ji60) p328 q328
 obtain rfl : ad324 = ad328 := (by injection e328)
 obtain ⟨ce328, hce328, hMe328, hcc328⟩ := Kd.N_get HO_7.out [] (ji60) p328 (by first | exact q328 | exact of_decide_eq_true zcj_2 | (have e_ := (Kd.N_reads' HO_7.out).1; omega))
 obtain ⟨ua328_0, uc328_0, rfl, ul328_0, ge328_0⟩ := Kd.FK_slice_open hMe328
 have hv328_0 := hcc328 0 _ rfl
 rw [Nat.add_zero, show ((Kd.slice 77 k77)).sz = 1 from rfl, Nat.mul_one] at hv328_0
 replace hv328_0 := Option.some.inj (hv328_0.symm.trans hx328_0)
 injection hv328_0 with hva_ hvn_ hvc_
 rw [hva_] at ge328_0
 rw [hvc_] at ul328_0
 have HL328_0 := Aside0.mk (show Kd.V k77 77 _ w.heap.size _ _ (rd_L6 x7_3 (ji60)) from Kd.V_mk ul328_0 ge328_0)
 clear hva_ hvn_ hvc_ ge328_0 ul328_0
 clear hcc328 hce328
 have HR328_0 := Aside0.mk hi328_0
 have HC328_0 := Aside0.mk hl328_0
 clear hi328_0 hl328_0
 replace p328 := eq_true p328
 replace q328 := eq_true q328
 refine start_ (n := 19) (S := fun w' => w'.cell? (ad324.add (t319).toNat) = some (.slice A324_0 (rd_L6 x7_3 t319).length c324_0) ∧ w'.cell? (ad324.add ((ji60)).toNat) = some (.slice A328_0 (rd_L6 x7_3 (ji60)).length c328_0)) (ds := [16]) #[false, false, false, false, false, false, false, false, false, false, false, false, false, false, false, false, false, false, false] (by kernel_rfl) rfl rfl ⟨hx324_0, hx328_0⟩ (fun hHeld => ?_); refine with_tabW spec_l20Term.tab11 spec_l20Term.bits11 (fun HT_ HW_ => ?_)
 generalize w75.drew = w76 at HO_7 BK281 HI0 HK HB HL324_0 HL328_0 HR324_0 HR328_0 hx324_0 hx328_0 hHeld ⊢
 refine pure_ (i := 1) (N := some 74) (v := ?_) (a' := ?_) #[false, true, false, false, false, false, false, false, false, false, false, false, false, false, false, false, false, false, false] rfl rfl (any_of HT_.out (by kernel_rfl)) (fun _ _ _ h => h) (Or.inl ⟨by rfl, ?_⟩) ?_ ?_
 rotate_left
 {
 intro w'
 go_simp
 with_reducible rfl
 }
 rotate_left
 {exact zcj_1}
 refine pure_ (i := 2) (N := some 75) (v := ?_) (a' := ?_) #[false, true, true, false, false, false, false, false, false, false, false, false, false, false, false, false, false, false, false] rfl rfl (any_of HT_.out (by kernel_rfl)) (fun _ _ _ h => h) (Or.inl ⟨by rfl, ?_⟩) ?_ ?_
 rotate_left
 {
 intro w'
 go_simp
 with_reducible rfl
 }
 rotate_left
 {exact zcj_1}
 refine pure_ (i := 3) (N := some 76) (v := ?_) (a' := ?_) #[false, true, true, true, false, false, false, false, false, false, false, false, false, false, false, false, false, false, false] rfl rfl (any_of HT_.out (by kernel_rfl)) (fun _ _ _ h => h) (Or.inl ⟨by rfl, ?_⟩) ?_ ?_
 rotate_left
 {
 intro w'
 go_simp
 with_reducible rfl
 }
 rotate_left
 {exact zcj_1}
 refine pure_ (i := 6) (N := some 79) (v := ?_) (a' := ?_) #[false, true, true, true, false, false, true, false, false, false, false, false, false, false, false, false, false, false, false] rfl rfl (any_of HT_.out (by kernel_rfl)) (fun _ _ _ h => h) (Or.inl ⟨by rfl, ?_⟩) ?_ ?_
 rotate_left
 {
 intro w'
 go_simp
 with_reducible rfl
 }
 rotate_left
 {exact zcj_1}
 refine pure_ (i := 7) (N := some 80) (v := ?_) (a' := ?_) #[false, true, true, true, false, false, true, true, false, false, false, false, false, false, false, false, false, false, false] rfl rfl (any_of HT_.out (by kernel_rfl)) (fun _ _ _ h => h) (Or.inl ⟨by rfl, ?_⟩) ?_ ?_
 rotate_left
 {
 intro w'
 go_simp
 with_reducible rfl
 }
 rotate_left
 {exact zcj_1}
 refine pure_ (i := 8) (N := some 81) (v := ?_) (a' := ?_) #[false, true, true, true, false, false, true, true, true, false, false, false, false, false, false, false, false, false, false] rfl rfl (any_of HT_.out (by kernel_rfl)) (fun _ _ _ h => h) (Or.inl ⟨by rfl, ?_⟩) ?_ ?_
 rotate_left
 {
 intro w'
 go_simp
 with_reducible rfl
 }
 rotate_left
 {exact zcj_1}
 refine pure_ (i := 9) (N := some 82) (v := ?_) (a' := ?_) #[false, true, true, true, false, false, true, true, true, true, false, false, false, false, false, false, false, false, false] rfl rfl (any_of HT_.out (by kernel_rfl)) (fun _ _ _ h => h) (Or.inl ⟨by rfl, ?_⟩) ?_ ?_
 rotate_left
 {
 intro w'
 go_simp
 with_reducible rfl
 }
 rotate_left
 {exact zcj_1}
 refine pure_ (i := 12) (N := some 85) (v := ?_) (a' := ?_) #[false, true, true, true, false, false, true, true, true, true, false, false, true, false, false, false, false, false, false] rfl rfl (any_of HT_.out (by kernel_rfl)) (fun _ _ _ h => h) (Or.inl ⟨by rfl, ?_⟩) ?_ ?_
 rotate_left
 {
 intro w'
 go_simp
 with_reducible rfl
 }
 rotate_left
 {exact zcj_1}
 refine take_ (i := 4) (N := some 77) (v := ?_) (a' := ?_) #[false, true, true, true, true, false, true, true, true, true, false, false, true, false, false, false, false, false, false] rfl rfl (take_ofW HT_.out HW_.out (by kernel_rfl)) (fun _ _ _ h => h) (Or.inl ⟨by rfl, ?_⟩) hHeld ?_ ?_
 rotate_left
 {
 rintro w' ⟨s0, s1⟩
 go_simp
 with_reducible rfl
 }
 rotate_left
 {exact zcj_1}
 refine take_ (i := 10) (N := some 83) (v := ?_) (a' := ?_) #[false, true, true, true, true, false, true, true, true, true, true, false, true, false, false, false, false, false, false] rfl rfl (take_ofW HT_.out HW_.out (by kernel_rfl)) (fun _ _ _ h => h) (Or.inl ⟨by rfl, ?_⟩) hHeld ?_ ?_
 rotate_left
 {
 rintro w' ⟨s0, s1⟩
 go_simp
 with_reducible rfl
 }
 rotate_left
 {exact zcj_1}
 refine one_ (i := 0) (N := some 73) #[true, true, true, true, true, false, true, true, true, true, true, false, true, false, false, false, false, false, false] rfl rfl (one_of HT_.out (by kernel_rfl)) (by decide) (fun K hK => ?_)
 refine Kd.R_lit_step k77 _ 77 ?hg (N := 73) ?hd (xs := ([] : List (S77))) (inner := []) (ok := fun _ => True) (okp := fun _ => True) ?hr ?hp (fun _ hk => hk) trivial (Below.refl _ _) (Nat.le_refl _) (by simp) ?_; (case hd => rfl); (case hg => rfl); (case hr => exact zcj_12); (case hp => exact (Reps.none _ _))
 intro v322 w77 ho78 hb hg_ hnew_
 have HS0_ := (hb.cell (World.block_lt_of_cell? _ _ (hHeld.1))).trans (hHeld.1)
 have HS1_ := (hb.cell (World.block_lt_of_cell? _ _ (hHeld.2))).trans (hHeld.2)
 clear hg_ hnew_
 (first | rw [← Ny321.out] at ho78 | (simp only [Int.reduceToNat] at ho78; rw [← Ny321.out] at ho78))
 have n0_ := Aside0.mk (Kd.N_elder' zcj_40 (Kd.R_base ho78) hb)
 have n1_ := Aside0.mk (Kd.V_elder' zcj_74 (Kd.R_base ho78) hb)
 have n2_ := Aside0.mk (Kd.V_elder' zcj_59 (Kd.R_base ho78) hb)
 have n3_ := Aside0.mk (Kd.R_lower (Kd.R_newM (M := fun k_ => (w.heap.size ≤ k_)) ho78 (keep_size (w := w) (g := g) (row := none) zcj_9) (fun k_ h_ => h_)) (keep_size (w := w) (g := g) (row := none) zcj_9))
 have n4_ := Aside0.mk (blk_below (g := gb281) (o := .cells #[.int .i64 a1_0, .slice A1_1 l1_1.length c1_1] 47 (0, 0)) zcj_19 hb)
 have n5_ := Aside0.mk (IsS63.below zcj_15 hb)
 have n6_ := Aside0.mk (Kd.C_below zcj_148 hb)
 have n7_ := Aside0.mk (Kd.C_below (by repeat (first | (with_reducible exact HR328_0.out) | (with_reducible refine Kd.C_alloc ?_ _) | (with_reducible refine Kd.C_drewN ?_ _) | (with_reducible refine Kd.C_drew ?_) | exact HR328_0.out)) hb)
 have n8_ := Aside0.mk (KeepBut.trans zcj_9 (KeepBut.of_below hb g none) (.inl rfl))
 have n9_ := Aside0.mk (below_step zcj_20 hb)
 clear HO_7
 clear HL324_0
 clear HL328_0
 clear BK281
 clear HI0
 clear HR324_0
 clear HR328_0
 clear HK
 clear HB
 have HO_7 := n0_
 have HL324_0 := n1_
 have HL328_0 := n2_
 have HO323 := n3_
 have BK281 := n4_
 have HI0 := n5_
 have HR324_0 := n6_
 have HR328_0 := n7_
 have HK := n8_
 have HB := n9_
 clear n0_ n1_ n2_ n3_ n4_ n5_ n6_ n7_ n8_ n9_
 clear hb ho78
 refine hK.out _ _ ⟨HS0_, HS1_⟩ (fun hHeld => ?_)
 clear hK K
 refine norm_ (a' := ?_) ?_ ?_
 rotate_left
 {exact zcj_136}
 refine one_ (i := 5) (N := some 78) #[true, true, true, true, true, true, true, true, true, true, true, false, true, false, false, false, false, false, false] rfl rfl (one_of HT_.out (by kernel_rfl)) (by decide) (fun K hK => ?_)
 (first | have HOz_ := Kd.R_typed HO323.out | have HOz_ := Kd.S_typed HO323.out | have HOz_ := Kd.N_typed HO323.out)
 refine Kd.R_append_rows_step k77 w.heap.size (by rfl) (.tmp 73) (.tmp 77) 65 77 (.agg #[(.int .i64 0), (.int .i64 0), (.int .i64 0)]) 24 rfl Tryd.underlying65 info77 rfl (by decide) (by omega) v322 y321 (rd_L6 x7_3 t319) _ _ _ (fun k_ => (w.heap.size ≤ k_)) (fun _ => False) rfl rfl ?aO ?aR (fun _ _ h => h) (fun _ h => h.elim) ?aF (Below.refl _ _) ?aS ?aL ?_
 (case aR => repeat (first | exact zcj_148 | (with_reducible refine Kd.C_alloc ?_ _) | (with_reducible refine Kd.C_drewN ?_ _) | (with_reducible refine Kd.C_drew ?_)))
 (case aF => exact zcj_113)
 (case aO => exact (by (with_reducible repeat (first | apply Kd.R_alloc | apply Kd.R_drewN | apply Kd.R_drew)); exact Kd.R_mono HO323.out (fun _ hk => hk.1)))
 (case aS => exact zcj_58)
 (case aL => have := LMc59.out; omega)
 intro v326 w79 ho hb hg hat
 have HS0_ := cell_grown hg (hHeld.1) zcj_75
 have HS1_ := cell_grown hg (hHeld.2) zcj_75
 clear HOz_
 rw [← Ny325.out] at ho
 have n0_ := Aside0.mk (Kd.N_afterv (ok := (fun k_ => (w.heap.size ≤ k_) ∧ k_ ≠ gb281 ∧ k_ ≠ g)) zcj_40 hg hat)
 have n1_ := Aside0.mk (blk_grown (g := gb281) (o := .cells #[.int .i64 a1_0, .slice A1_1 l1_1.length c1_1] 47 (0, 0)) zcj_19 hg (Kd.R_ne HO323.out BK281.out (by decide)))
 have n2_ := Aside0.mk (IsS63.grown zcj_15 hg (IsS63.own_ne HI0.out HO323.out (by decide)))
 have n3_ := Aside0.mk (Kd.V_afterv (ok := (fun k_ => (w.heap.size ≤ k_) ∧ some k_ ≠ (.slice (some ad324) x7_3.length co74 : Value).ownBlock ∧ k_ ≠ gb281 ∧ k_ ≠ g)) (by (with_reducible repeat (first | apply Kd.V_alloc | apply Kd.V_drewN | apply Kd.V_drew)); exact Kd.V_mono HL324_0.out (fun _ hk => ⟨⟨hk.1.1.1, ⟨hk.1.2, ⟨hk.1.1.2.1, hk.1.1.2.2⟩⟩⟩, hk.2⟩)) hg hat)
 have n4_ := Aside0.mk (Kd.V_afterv (ok := (fun k_ => (w.heap.size ≤ k_) ∧ some k_ ≠ (.slice (some ad324) x7_3.length co74 : Value).ownBlock ∧ k_ ≠ gb281 ∧ k_ ≠ g)) (by (with_reducible repeat (first | apply Kd.V_alloc | apply Kd.V_drewN | apply Kd.V_drew)); exact Kd.V_mono HL328_0.out (fun _ hk => ⟨⟨hk.1.1.1, ⟨hk.1.2, ⟨hk.1.1.2.1, hk.1.1.2.2⟩⟩⟩, hk.2⟩)) hg hat)
 have n5_ := Aside0.mk (below_weaken zcj_20 HL.out hb)
 have n6_ := Aside0.mk (KeepBut.trans zcj_9 (KeepBut.of_grown hg g) (Kd.R_base2 HO323.out))
 have n7_ := Aside0.mk (ho)
 clear HO_7
 clear BK281
 clear HI0
 clear HL324_0
 clear HL328_0
 clear HB
 clear HK
 clear HO323
 have HO_7 := n0_
 have BK281 := n1_
 have HI0 := n2_
 have HL324_0 := n3_
 have HL328_0 := n4_
 have HB := n5_
 have HK := n6_
 have HO327 := n7_
 clear n0_ n1_ n2_ n3_ n4_ n5_ n6_ n7_
 clear ho hb hg hat
 refine hK.out _ _ ⟨HS0_, HS1_⟩ (fun hHeld => ?_)
 clear hK K
 refine norm_ (a' := ?_) ?_ ?_
 rotate_left
 {exact zcj_106}
 refine one_ (i := 11) (N := some 84) #[true, true, true, true, true, true, true, true, true, true, true, true, true, false, false, false, false, false, false] rfl rfl (one_of HT_.out (by kernel_rfl)) (by decide) (fun K hK => ?_)
 (first | have HOz_ := Kd.R_typed HO327.out | have HOz_ := Kd.S_typed HO327.out | have HOz_ := Kd.N_typed HO327.out)
 refine Kd.R_append_rows_step k77 w.heap.size (by rfl) (.tmp 78) (.tmp 83) 65 77 (.agg #[(.int .i64 0), (.int .i64 0), (.int .i64 0)]) 24 rfl Tryd.underlying65 info77 rfl (by decide) (by omega) v326 y325 (rd_L6 x7_3 (ji60)) _ _ _ (fun k_ => (w.heap.size ≤ k_)) (fun _ => False) rfl rfl ?aO ?aR (fun _ _ h => h) (fun _ h => h.elim) ?aF (Below.refl _ _) ?aS ?aL ?_
 (case aR => repeat (first | exact ((Kd.V_reads' zcj_59).2.2) | (with_reducible refine Kd.C_alloc ?_ _) | (with_reducible refine Kd.C_drewN ?_ _) | (with_reducible refine Kd.C_drew ?_)))
 (case aF => exact zcj_113)
 (case aO => exact (by (with_reducible repeat (first | apply Kd.R_alloc | apply Kd.R_drewN | apply Kd.R_drew)); exact HO327.out))
 (case aS => exact zcj_58)
 (case aL => have := LMc63.out; omega)
 intro v330 w80 ho hb hg hat
 have HS0_ := cell_grown hg (hHeld.1) zcj_75
 have HS1_ := cell_grown hg (hHeld.2) zcj_75
 clear HOz_
 rw [← Ny329.out] at ho
 have n0_ := Aside0.mk (Kd.N_afterv (ok := (fun k_ => (w.heap.size ≤ k_) ∧ k_ ≠ gb281 ∧ k_ ≠ g)) zcj_40 hg hat)
 have n1_ := Aside0.mk (blk_grown (g := gb281) (o := .cells #[.int .i64 a1_0, .slice A1_1 l1_1.length c1_1] 47 (0, 0)) zcj_19 hg (Kd.R_ne HO327.out BK281.out (by decide)))
 have n2_ := Aside0.mk (IsS63.grown zcj_15 hg (IsS63.own_ne HI0.out HO327.out (by decide)))
 have n3_ := Aside0.mk (Kd.V_afterv (ok := (fun k_ => (w.heap.size ≤ k_) ∧ some k_ ≠ (.slice (some ad324) x7_3.length co74 : Value).ownBlock ∧ k_ ≠ gb281 ∧ k_ ≠ g)) zcj_74 hg hat)
 have n4_ := Aside0.mk (Kd.V_afterv (ok := (fun k_ => (w.heap.size ≤ k_) ∧ some k_ ≠ (.slice (some ad324) x7_3.length co74 : Value).ownBlock ∧ k_ ≠ gb281 ∧ k_ ≠ g)) zcj_59 hg hat)
 have n5_ := Aside0.mk (below_weaken zcj_20 HL.out hb)
 have n6_ := Aside0.mk (KeepBut.trans zcj_9 (KeepBut.of_grown hg g) (Kd.R_base2 HO327.out))
 have n7_ := Aside0.mk (ho)
 clear HO_7
 clear BK281
 clear HI0
 clear HL324_0
 clear HL328_0
 clear HB
 clear HK
 clear HO327
 have HO_7 := n0_
 have BK281 := n1_
 have HI0 := n2_
 have HL324_0 := n3_
 have HL328_0 := n4_
 have HB := n5_
 have HK := n6_
 have HO331 := n7_
 clear n0_ n1_ n2_ n3_ n4_ n5_ n6_ n7_
 clear ho hb hg hat
 refine hK.out _ _ ⟨HS0_, HS1_⟩ (fun hHeld => ?_)
 clear hK K
 refine norm_ (a' := ?_) ?_ ?_
 rotate_left
 {show Act.put _ (some 84) _ = _; simp only [Act.put, List.setIfInBounds_toArray, List.set_cons_zero, List.set_cons_succ, i64_w, i32_w]; rfl}
 refine one_ (i := 13) (N := some 86) #[true, true, true, true, true, true, true, true, true, true, true, true, true, true, false, false, false, false, false] rfl rfl (one_of HT_.out (by kernel_rfl)) (by decide) (fun K hK => ?_)
 refine goes_ Tryd.func34 (by kernel_rfl) rfl #[.pointer (some ⟨g, 0, none⟩), .int .i64 2] (by rfl) rfl rfl zcj_3 ?_
 with_reducible refine (spec_l20Rd_pick.calls k3 g s0_0 t320 2 t332 t333 w0 _ ?side1 ?side2 A64.out).mono ?_
 (case side1 => exact zcj_15)
 (case side2 => exact zcj_20)
 rintro e w81 ⟨rfl, hi, hb, hk⟩
 have HS0_ := keep_cell hk (hHeld.1) zcj_149
 have HS1_ := keep_cell hk (hHeld.2) zcj_149
 refine ⟨_, rfl, ?_⟩
 have n0_ := Aside0.mk (Kd.N_mono (Kd.N_keep (Kd.N_mono (ok := fun k_ => ((((w.heap.size ≤ k_)) ∧ (k_ ≠ gb281 ∧ k_ ≠ g)) ∧ some k_ ≠ (v330 : Value).ownBlock)) zcj_40 (fun k_ hk_ => (⟨hk_, hk_.1.2.2⟩ : _ ∧ k_ ≠ g))) hk (fun _ h => h.2)) (fun _ h => h.1))
 have n1_ := Aside0.mk (KeepBut.blk hk (g' := gb281) (o := .cells #[.int .i64 a1_0, .slice A1_1 l1_1.length c1_1] 47 (0, 0)) zcj_19 NB281_0.out (by simp))
 have n2_ := Aside0.mk (Kd.V_mono (Kd.V_keep (Kd.V_mono (ok := fun k_ => ((((w.heap.size ≤ k_)) ∧ (some k_ ≠ (.slice (some ad324) x7_3.length co74 : Value).ownBlock ∧ (k_ ≠ gb281 ∧ k_ ≠ g))) ∧ some k_ ≠ (v330 : Value).ownBlock)) zcj_74 (fun k_ hk_ => (⟨hk_, hk_.1.2.2.2⟩ : _ ∧ k_ ≠ g))) hk (fun _ h => h.2)) (fun _ h => h.1))
 have n3_ := Aside0.mk (Kd.V_mono (Kd.V_keep (Kd.V_mono (ok := fun k_ => ((((w.heap.size ≤ k_)) ∧ (some k_ ≠ (.slice (some ad324) x7_3.length co74 : Value).ownBlock ∧ (k_ ≠ gb281 ∧ k_ ≠ g))) ∧ some k_ ≠ (v330 : Value).ownBlock)) zcj_59 (fun k_ hk_ => (⟨hk_, hk_.1.2.2.2⟩ : _ ∧ k_ ≠ g))) hk (fun _ h => h.2)) (fun _ h => h.1))
 have n4_ := Aside0.mk (Kd.R_mono (Kd.R_keep (IsS63.apart (show IsS63 w0 _ g s0_0 t320 from by repeat (first | (with_reducible first | exact HI0.out | apply IsS63.alloc | apply IsS63.drewN | apply IsS63.drew | apply IsS63.set_1 | refine IsS63.far ?_ NB0_281.out _) | exact HI0.out)) zcj_150 (by decide)) hk (fun _ h => h.2)) (fun _ h => h.1))
 have n5_ := Aside0.mk (KeepBut.trans zcj_9 hk (.inl rfl))
 have n6_ := Aside0.mk (hb)
 have n7_ := Aside0.mk (hi)
 clear HO_7
 clear BK281
 clear HL324_0
 clear HL328_0
 clear HO331
 clear HK
 clear HB
 clear HI0
 have HO_7 := n0_
 have BK281 := n1_
 have HL324_0 := n2_
 have HL328_0 := n3_
 have HO331 := n4_
 have HK := n5_
 have HB := n6_
 have HI0 := n7_
 clear n0_ n1_ n2_ n3_ n4_ n5_ n6_ n7_
 (try clear hb)
 (try clear hb2)
 (try clear hk)
 (try clear hi)
 refine hK.out _ _ ⟨HS0_, HS1_⟩ (fun hHeld => ?_)
 clear hK K
 refine norm_ (a' := ?_) ?_ ?_
 rotate_left
 {show Act.put _ (some 86) _ = _; simp only [Act.put, List.setIfInBounds_toArray, List.set_cons_zero, List.set_cons_succ, i64_w, i32_w]; rfl}
 refine pure_ (i := 14) (N := some 87) (v := ?_) (a' := ?_) #[true, true, true, true, true, true, true, true, true, true, true, true, true, true, true, false, false, false, false] rfl rfl (any_of HT_.out (by kernel_rfl)) (fun _ _ _ h => h) (Or.inl ⟨by rfl, ?_⟩) ?_ ?_
 rotate_left
 {
 intro w'
 go_simp
 with_reducible rfl
 }
 rotate_left
 {exact zcj_1}
 refine pure_ (i := 15) (N := some 88) (v := ?_) (a' := ?_) #[true, true, true, true, true, true, true, true, true, true, true, true, true, true, true, true, false, false, false] rfl rfl (any_of HT_.out (by kernel_rfl)) (fun _ _ _ h => h) (Or.inl ⟨by rfl, ?_⟩) ?_ ?_
 rotate_left
 {
 intro w'
 go_simp
 with_reducible rfl
 }
 rotate_left
 {exact zcj_1}
 refine last_ (i := 16) (N := some 89) #[true, true, true, true, true, true, true, true, true, true, true, true, true, true, true, true, true, false, false] rfl rfl (one_of HT_.out (by kernel_rfl)) (by decide) (fun K hK => ?_)
 refine value_ (w1 := ?_) (v := ?_) (by rfl) rfl ?_ ?_
 rotate_left 2
 {
 go_simp
 constructor
 {rfl}
 {rfl}
 }
 refine hK.out _ _ ?_
 clear hK K
 refine norm_ (a' := ?_) ?_ ?_
 rotate_left
 {show Act.put _ (some 89) _ = _; simp only [Act.put, List.setIfInBounds_toArray, List.set_cons_zero, List.set_cons_succ, i64_w, i32_w]; rfl}
 refine one_ (i := 17) (N := some 90) #[true, true, true, true, true, true, true, true, true, true, true, true, true, true, true, true, true, true, false] rfl rfl (one_of HT_.out (by kernel_rfl)) (by decide) (fun K hK => ?_)
 (first | have HOz_ := Kd.R_typed HO331.out | have HOz_ := Kd.S_typed HO331.out | have HOz_ := Kd.N_typed HO331.out)
 refine Kd.R_append_step k77 w.heap.size (by rfl) (.tmp 84) (.tmp 89) 65 77 (.agg #[(.int .i64 0), (.int .i64 0), (.int .i64 0)]) 24 rfl Tryd.underlying65 info77 rfl (by decide) (by omega) v330 y329 (⟨wrap64 (1 + t332), 0, 0⟩ : S77) [.int .i64 (wrap64 (1 + t332)), .int .i64 0, .int .i64 0] (fun k_ => (w.heap.size ≤ k_)) (fun _ => False) rfl rfl ?aP (fun _ hk => hk.elim) ?aF ?aO (Below.refl _ _) ?aS ?aL ?_
 (case aP => exact k77_mkM _ _ _ (⟨wrap64 (1 + t332), 0, 0⟩ : S77))
 (case aF => exact zcj_113)
 (case aO => exact zcj_150)
 (case aS => exact zcj_58)
 (case aL => have := LMc65.out; omega)
 intro v335 w82 ho hb hg hat
 have HS0_ := cell_grown hg (hHeld.1) zcj_75
 have HS1_ := cell_grown hg (hHeld.2) zcj_75
 clear HOz_
 rw [← Ny334.out] at ho
 have n0_ := Aside0.mk (Kd.N_afterv (ok := (fun k_ => (w.heap.size ≤ k_) ∧ k_ ≠ gb281 ∧ k_ ≠ g)) zcj_40 hg hat)
 have n1_ := Aside0.mk (blk_grown (g := gb281) (o := .cells #[.int .i64 a1_0, .slice A1_1 l1_1.length c1_1] 47 (0, 0)) zcj_19 hg (Kd.R_ne HO331.out BK281.out (by decide)))
 have n2_ := Aside0.mk (IsS63.grown zcj_15 hg (IsS63.own_ne HI0.out HO331.out (by decide)))
 have n3_ := Aside0.mk (Kd.V_afterv (ok := (fun k_ => (w.heap.size ≤ k_) ∧ some k_ ≠ (.slice (some ad324) x7_3.length co74 : Value).ownBlock ∧ k_ ≠ gb281 ∧ k_ ≠ g)) zcj_74 hg hat)
 have n4_ := Aside0.mk (Kd.V_afterv (ok := (fun k_ => (w.heap.size ≤ k_) ∧ some k_ ≠ (.slice (some ad324) x7_3.length co74 : Value).ownBlock ∧ k_ ≠ gb281 ∧ k_ ≠ g)) zcj_59 hg hat)
 have n5_ := Aside0.mk (below_weaken zcj_20 HL.out hb)
 have n6_ := Aside0.mk (KeepBut.trans zcj_9 (KeepBut.of_grown hg g) (Kd.R_base2 HO331.out))
 have n7_ := Aside0.mk (ho)
 clear HO_7
 clear BK281
 clear HI0
 clear HL324_0
 clear HL328_0
 clear HB
 clear HK
 clear HO331
 have HO_7 := n0_
 have BK281 := n1_
 have HI0 := n2_
 have HL324_0 := n3_
 have HL328_0 := n4_
 have HB := n5_
 have HK := n6_
 have HO336 := n7_
 clear n0_ n1_ n2_ n3_ n4_ n5_ n6_ n7_
 clear ho hb hg hat
 refine hK.out _ _ ⟨HS0_, HS1_⟩ (fun hHeld => ?_)
 clear hK K
 refine norm_ (a' := ?_) ?_ ?_
 rotate_left
 {show Act.put _ (some 90) _ = _; simp only [Act.put, List.setIfInBounds_toArray, List.set_cons_zero, List.set_cons_succ, i64_w, i32_w]; rfl}
 refine pure_ (i := 18) (N := some 11) (v := ?_) (a' := ?_) #[true, true, true, true, true, true, true, true, true, true, true, true, true, true, true, true, true, true, true] rfl rfl (any_of HT_.out (by kernel_rfl)) (fun _ _ _ h => h) (Or.inl ⟨by rfl, ?_⟩) ?_ ?_
 rotate_left
 {
 intro w'
 go_simp
 with_reducible rfl
 }
 rotate_left
 {exact zcj_1}
 refine done_ (done_of HT_.out (by kernel_rfl)) ?_
 try go_wp2_with (first | ((with_reducible refine gate_dst (N := 91) rfl ?_); refine Kd.N_lit (Kd.slice 77 k77) _ 65 ?hg (N' := 91) ?hd (xs := ([] : List (List (S77)))) (inner := []) (ok := (fun k_ => (w.heap.size ≤ k_) ∧ some k_ ≠ (.slice (some ad324) x7_3.length co74 : Value).ownBlock ∧ some k_ ≠ (v335 : Value).ownBlock ∧ k_ ≠ gb281 ∧ k_ ≠ g)) (okp := (fun k_ => (w.heap.size ≤ k_) ∧ some k_ ≠ (.slice (some ad324) x7_3.length co74 : Value).ownBlock ∧ some k_ ≠ (v335 : Value).ownBlock ∧ k_ ≠ gb281 ∧ k_ ≠ g)) ?hr ?hp (fun _ hk => hk) ((show ∀ k_, w82.heap.size ≤ k_ → (fun k_ => (w.heap.size ≤ k_) ∧ some k_ ≠ (.slice (some ad324) x7_3.length co74 : Value).ownBlock ∧ some k_ ≠ (v335 : Value).ownBlock ∧ k_ ≠ gb281 ∧ k_ ≠ g) k_ from fun k_ hk => ⟨(Nat.le_trans (keep_size (w := w) (g := g) (row := none) zcj_9) hk), Kd.fresh' (Kd.N_lt zcj_40) k_ hk, Kd.fresh' (Kd.R_lt zcj_98) k_ hk, Kd.freshB (g := gb281) (o := .cells #[.int .i64 a1_0, .slice A1_1 l1_1.length c1_1] 47 (0, 0)) zcj_19 k_ hk, IsS63.fresh zcj_15 k_ hk⟩) _ (Nat.le_refl _)) (Below.refl _ _) (Nat.le_refl _) (by simp) ?_; (case hd => rfl); (case hg => rfl); (case hr => exact zcj_12); (case hp => exact (Reps.none _ _)); intro v338 w83 ho84 hb hg_ hnew_; clear hg_ hnew_; (first | rw [← Ny337.out] at ho84 | (simp only [Int.reduceToNat] at ho84; rw [← Ny337.out] at ho84)); have n0_ := Aside0.mk (Kd.N_elder' zcj_40 (Kd.N_base ho84) hb); have n1_ := Aside0.mk (Kd.V_elder' zcj_74 (Kd.N_base ho84) hb); have n2_ := Aside0.mk (Kd.V_elder' zcj_59 (Kd.N_base ho84) hb); have n3_ := Aside0.mk (Kd.R_below zcj_98 hb); have n4_ := Aside0.mk (Kd.N_lower ho84 (keep_size (w := w) (g := g) (row := none) zcj_9)); have n5_ := Aside0.mk (blk_below (g := gb281) (o := .cells #[.int .i64 a1_0, .slice A1_1 l1_1.length c1_1] 47 (0, 0)) zcj_19 hb); have n6_ := Aside0.mk (IsS63.below zcj_15 hb); have n7_ := Aside0.mk (KeepBut.trans zcj_9 (KeepBut.of_below hb g none) (.inl rfl)); have n8_ := Aside0.mk (below_step zcj_20 hb); clear HO_7; clear HL324_0; clear HL328_0; clear HO336; clear BK281; clear HI0; clear HK; clear HB; have HO_7 := n0_; have HL324_0 := n1_; have HL328_0 := n2_; have HO336 := n3_; have HO339 := n4_; have BK281 := n5_; have HI0 := n6_; have HK := n7_; have HB := n8_; clear n0_ n1_ n2_ n3_ n4_ n5_ n6_ n7_ n8_; clear hb ho84; have q85 : (t319 : Int) ≤ ((x7_3.length : Int) : Int) := of_decide_eq_true zcj_2; obtain ⟨i085, hi085, _, hsz85, _⟩ := info_parts info65; have hroom85 : x7_3.length ≤ co74 := (Kd.N_reads' HO_7.out).2.1; have hC85 : Kd.F (Kd.slice 77 k77) _ _ (some ad324) x7_3.length x7_3 := (Kd.V_at (base := w.heap.size) (Kd.N_V HO_7.out)).2.2; have hcut85 := cut_to (P := Tryd.prog) 78 65 .i64 Tryd.underlying78 hi085 (some ad324) x7_3.length co74 t319 (of_decide_eq_true zcj_2) q85 hroom85; have hr85 := Kd.F_take (m := (t319 : Int).toNat) hC85 (by omega); have hy85 : y340.length = (t319 : Int).toNat := (by rw [Ny340.out, List.length_take]; omega); rw [← Ny340.out] at hr85; rw [← hy85] at hcut85; have HO344 := Aside0.mk (show Kd.V (Kd.slice 77 k77) 65 _ w.heap.size _ (.slice (some ad324) y340.length co74) y340 from Kd.V_mk (by omega) hr85); have HC344 := Aside0.mk (show y340.length ≤ co74 from by omega); clear hr85 hC85 hroom85 hi085 hsz85; have KY85 := Aside0.mk hy85; clear hy85; replace q85 := eq_true q85) | ((with_reducible refine gate_builtin (b := .append) (xs := #[.tmp 91, .tmp 94]) rfl ?_); at_builtin; refine Kd.N_append_rows (Kd.slice 77 k77) w.heap.size rfl (.tmp 91) (.tmp 94) 78 65 (.slice none 0 0) 24 rfl Tryd.underlying78 info65 rfl (by decide) (by omega) v338 y337 y340 _ _ _ (fun k_ => (w.heap.size ≤ k_) ∧ some k_ ≠ (v335 : Value).ownBlock ∧ k_ ≠ gb281 ∧ k_ ≠ g) (fun k_ => ((fun k_ => (w.heap.size ≤ k_) ∧ some k_ ≠ (v335 : Value).ownBlock ∧ k_ ≠ gb281 ∧ k_ ≠ g)) k_ ∧ some k_ ≠ (v338 : Value).ownBlock) rfl rfl ?aO ?aR (fun _ hk => hk) ?aF (Below.refl _ _) ?aS ?aL ?_; (case aR => exact (by skip; exact Kd.V_F (Kd.V_mono (ok' := (fun k_ => ((fun k_ => (w.heap.size ≤ k_) ∧ some k_ ≠ (v335 : Value).ownBlock ∧ k_ ≠ gb281 ∧ k_ ≠ g)) k_ ∧ some k_ ≠ (v338 : Value).ownBlock)) (HO344.out) (fun k_ hk => ⟨⟨hk.1.1.1, ⟨hk.1.2, ⟨hk.1.1.2.1, hk.1.1.2.2⟩⟩⟩, hk.2⟩)))); (case aF => exact (fun k_ hk => ⟨(Nat.le_trans (keep_size (w := w) (g := g) (row := none) zcj_9) hk), Kd.fresh' (Kd.R_lt zcj_98) k_ hk, Kd.freshB (g := gb281) (o := .cells #[.int .i64 a1_0, .slice A1_1 l1_1.length c1_1] 47 (0, 0)) zcj_19 k_ hk, IsS63.fresh zcj_15 k_ hk⟩)); (case aO => exact (by (with_reducible repeat (first | apply Kd.N_alloc | apply Kd.N_drewN | apply Kd.N_drew)); exact Kd.N_mono HO339.out (fun _ hk => ⟨hk.1, ⟨hk.2.2.1, ⟨hk.2.2.2.1, hk.2.2.2.2⟩⟩⟩))); (case aS => exact zcj_58); (case aL => have := LMc68.out; omega); intro v346 w86 ho hb hg hat; rw [← Ny345.out] at ho; have n0_ := Aside0.mk (Kd.N_afterv (ok := (fun k_ => (w.heap.size ≤ k_) ∧ some k_ ≠ (v335 : Value).ownBlock ∧ k_ ≠ gb281 ∧ k_ ≠ g)) (by (with_reducible repeat (first | apply Kd.N_alloc | apply Kd.N_drewN | apply Kd.N_drew)); exact Kd.N_mono HO_7.out (fun _ hk => ⟨⟨hk.1.1.1, ⟨hk.1.2, ⟨hk.1.1.2.1, hk.1.1.2.2⟩⟩⟩, hk.2⟩)) hg hat); have n1_ := Aside0.mk (blk_grown (g := gb281) (o := .cells #[.int .i64 a1_0, .slice A1_1 l1_1.length c1_1] 47 (0, 0)) zcj_19 hg (Kd.N_ne HO339.out BK281.out (by decide))); have n2_ := Aside0.mk (IsS63.grown zcj_15 hg (IsS63.own_neN HI0.out HO339.out (by decide))); have n3_ := Aside0.mk (Kd.V_afterv (ok := (fun k_ => (w.heap.size ≤ k_) ∧ some k_ ≠ (.slice (some ad324) x7_3.length co74 : Value).ownBlock ∧ some k_ ≠ (v335 : Value).ownBlock ∧ k_ ≠ gb281 ∧ k_ ≠ g)) (by (with_reducible repeat (first | apply Kd.V_alloc | apply Kd.V_drewN | apply Kd.V_drew)); exact Kd.V_mono HL324_0.out (fun _ hk => ⟨⟨hk.1.1.1, ⟨hk.1.1.2.1, ⟨hk.1.2, ⟨hk.1.1.2.2.1, hk.1.1.2.2.2⟩⟩⟩⟩, hk.2⟩)) hg hat); have n4_ := Aside0.mk (Kd.V_afterv (ok := (fun k_ => (w.heap.size ≤ k_) ∧ some k_ ≠ (.slice (some ad324) x7_3.length co74 : Value).ownBlock ∧ some k_ ≠ (v335 : Value).ownBlock ∧ k_ ≠ gb281 ∧ k_ ≠ g)) (by (with_reducible repeat (first | apply Kd.V_alloc | apply Kd.V_drewN | apply Kd.V_drew)); exact Kd.V_mono HL328_0.out (fun _ hk => ⟨⟨hk.1.1.1, ⟨hk.1.1.2.1, ⟨hk.1.2, ⟨hk.1.1.2.2.1, hk.1.1.2.2.2⟩⟩⟩⟩, hk.2⟩)) hg hat); have n5_ := Aside0.mk (Kd.R_over' zcj_98 (Kd.N_typed (by (with_reducible repeat (first | apply Kd.N_alloc | apply Kd.N_drewN | apply Kd.N_drew)); exact HO339.out)) (by decide) hg); have n6_ := Aside0.mk (Kd.V_afterv (ok := (fun k_ => (w.heap.size ≤ k_) ∧ some k_ ≠ (v335 : Value).ownBlock ∧ k_ ≠ gb281 ∧ k_ ≠ g)) (by (with_reducible repeat (first | apply Kd.V_alloc | apply Kd.V_drewN | apply Kd.V_drew)); exact Kd.V_mono HO344.out (fun _ hk => ⟨⟨hk.1.1.1, ⟨hk.1.2, ⟨hk.1.1.2.1, hk.1.1.2.2⟩⟩⟩, hk.2⟩)) hg hat); have n7_ := Aside0.mk (below_weaken zcj_20 HL.out hb); have n8_ := Aside0.mk (KeepBut.trans zcj_9 (KeepBut.of_grown hg g) (Kd.N_base2 HO339.out)); have n9_ := Aside0.mk (ho); clear HO_7; clear BK281; clear HI0; clear HL324_0; clear HL328_0; clear HO336; clear HO344; clear HB; clear HK; clear HO339; have HO_7 := n0_; have BK281 := n1_; have HI0 := n2_; have HL324_0 := n3_; have HL328_0 := n4_; have HO336 := n5_; have HO344 := n6_; have HB := n7_; have HK := n8_; have HO347 := n9_; clear n0_ n1_ n2_ n3_ n4_ n5_ n6_ n7_ n8_ n9_; clear ho hb hg hat; obtain ⟨Ao88, co88, eo88⟩ := Kd.R_slice HO336.out; subst eo88) | ((with_reducible refine gate_builtin (b := .append) (xs := #[.tmp 96, .tmp 98]) rfl ?_); at_builtin; refine Kd.N_append (Kd.slice 77 k77) w.heap.size rfl (.tmp 96) (.tmp 98) 78 65 (.slice none 0 0) 24 rfl Tryd.underlying78 info65 rfl (by decide) (by omega) v346 y345 y334 [.slice Ao88 y334.length co88] (fun k_ => (w.heap.size ≤ k_) ∧ k_ ≠ gb281 ∧ k_ ≠ g) (fun k_ => ((fun k_ => (w.heap.size ≤ k_) ∧ k_ ≠ gb281 ∧ k_ ≠ g)) k_ ∧ some k_ ≠ (v346 : Value).ownBlock) rfl rfl ?aP (fun _ hk => hk) ?aF ?aO (Below.refl _ _) ?aS ?aL ?_; (case aP => exact (Kd.FK_slice_mk (Kd.R_reads' (Kd.R_mono (ok' := (fun k_ => ((fun k_ => (w.heap.size ≤ k_) ∧ k_ ≠ gb281 ∧ k_ ≠ g)) k_ ∧ some k_ ≠ (v346 : Value).ownBlock)) (IsS63.apart HI0.out (Kd.R_types (Kd.R_apart' (HO336.out) (Kd.N_typed HO347.out) (by decide)) BK281.out (by decide)) (by decide)) (fun k_ hk => ⟨⟨hk.1.1.1, ⟨hk.1.2, hk.2⟩⟩, hk.1.1.2⟩))).2.1 (Kd.R_F (Kd.R_mono (ok' := (fun k_ => ((fun k_ => (w.heap.size ≤ k_) ∧ k_ ≠ gb281 ∧ k_ ≠ g)) k_ ∧ some k_ ≠ (v346 : Value).ownBlock)) (IsS63.apart HI0.out (Kd.R_types (Kd.R_apart' (HO336.out) (Kd.N_typed HO347.out) (by decide)) BK281.out (by decide)) (by decide)) (fun k_ hk => ⟨⟨hk.1.1.1, ⟨hk.1.2, hk.2⟩⟩, hk.1.1.2⟩))))); (case aF => exact zcj_151); (case aO => exact (by (with_reducible repeat (first | apply Kd.N_alloc | apply Kd.N_drewN | apply Kd.N_drew)); exact Kd.N_mono HO347.out (fun _ hk => ⟨hk.1, ⟨hk.2.2.1, hk.2.2.2⟩⟩))); (case aS => exact zcj_58); (case aL => have := LMc69.out; omega); intro v349 w87 ho hb hg hat; rw [← Ny348.out] at ho; have n0_ := Aside0.mk (Kd.N_afterv (ok := (fun k_ => (w.heap.size ≤ k_) ∧ some k_ ≠ (.slice Ao88 y334.length co88 : Value).ownBlock ∧ k_ ≠ gb281 ∧ k_ ≠ g)) zcj_40 hg hat); have n1_ := Aside0.mk (blk_grown (g := gb281) (o := .cells #[.int .i64 a1_0, .slice A1_1 l1_1.length c1_1] 47 (0, 0)) zcj_19 hg (Kd.N_ne HO347.out BK281.out (by decide))); have n2_ := Aside0.mk (IsS63.grown zcj_15 hg (IsS63.own_neN HI0.out HO347.out (by decide))); have n3_ := Aside0.mk (Kd.V_afterv (ok := (fun k_ => (w.heap.size ≤ k_) ∧ some k_ ≠ (.slice (some ad324) x7_3.length co74 : Value).ownBlock ∧ some k_ ≠ (.slice Ao88 y334.length co88 : Value).ownBlock ∧ k_ ≠ gb281 ∧ k_ ≠ g)) zcj_74 hg hat); have n4_ := Aside0.mk (Kd.V_afterv (ok := (fun k_ => (w.heap.size ≤ k_) ∧ some k_ ≠ (.slice (some ad324) x7_3.length co74 : Value).ownBlock ∧ some k_ ≠ (.slice Ao88 y334.length co88 : Value).ownBlock ∧ k_ ≠ gb281 ∧ k_ ≠ g)) zcj_59 hg hat); have n5_ := Aside0.mk (Kd.V_afterv (ok := (fun k_ => (w.heap.size ≤ k_) ∧ some k_ ≠ (.slice Ao88 y334.length co88 : Value).ownBlock ∧ k_ ≠ gb281 ∧ k_ ≠ g)) (by (with_reducible repeat (first | apply Kd.V_alloc | apply Kd.V_drewN | apply Kd.V_drew)); exact HO344.out) hg hat); have n6_ := Aside0.mk (below_weaken zcj_20 HL.out hb); have n7_ := Aside0.mk (KeepBut.trans zcj_9 (KeepBut.of_grown hg g) (Kd.N_base2 HO347.out)); have n8_ := Aside0.mk (ho); clear HO_7; clear BK281; clear HI0; clear HL324_0; clear HL328_0; clear HO344; clear HB; clear HK; clear HO347; clear HO336; have HO_7 := n0_; have BK281 := n1_; have HI0 := n2_; have HL324_0 := n3_; have HL328_0 := n4_; have HO344 := n5_; have HB := n6_; have HK := n7_; have HO350 := n8_; clear n0_ n1_ n2_ n3_ n4_ n5_ n6_ n7_ n8_; clear ho hb hg hat; have q89 : ((ji70) : Int) ≤ ((x7_3.length : Int) : Int) := of_decide_eq_true zcj_2; obtain ⟨i089, hi089, _, hsz89, _⟩ := info_parts info65; have hroom89 : x7_3.length ≤ co74 := (Kd.N_reads' HO_7.out).2.1; have hC89 : Kd.F (Kd.slice 77 k77) _ _ (some ad324) x7_3.length x7_3 := (Kd.V_at (base := w.heap.size) (Kd.N_V HO_7.out)).2.2; have q089 : (0 : Int) ≤ ((ji70) : Int) := of_decide_eq_true zcj_2; have hcut89 := cut_from (P := Tryd.prog) 78 65 .i64 Tryd.underlying78 hi089 1 hsz89 (some ad324) x7_3.length co74 (ji70) q089 q89; have hr89 := Kd.F_cut (m := ((ji70) : Int).toNat) (c := co74) hC89 (by omega) hroom89; obtain ⟨A89, hA89⟩ : ∃ A1, A1 = (if co74 = ((ji70) : Int).toNat then (some ad324) else ((some ad324) : Option Addr).map (·.add (((ji70) : Int).toNat * 1))) := ⟨_, rfl⟩; obtain ⟨c89, hc89⟩ : ∃ c1, c1 = co74 - ((ji70) : Int).toNat := ⟨_, rfl⟩; have hy89 : y351.length = x7_3.length - ((ji70) : Int).toNat := (by rw [Ny351.out, List.length_drop] <;> omega); rw [show (x7_3).drop ((ji70) : Int).toNat = y351 from Ny351.out.symm] at hr89; replace hr89 : Kd.F (Kd.slice 77 k77) _ _ A89 y351.length y351 := (by rw [hA89]; exact hr89); rw [← hy89, ← hA89, ← hc89] at hcut89; have HO355 := Aside0.mk (show Kd.V (Kd.slice 77 k77) 65 _ w.heap.size _ (.slice A89 y351.length c89) y351 from Kd.V_mk (by rw [hy89, hc89]; exact Nat.sub_le_sub_right hroom89 _) hr89); have HC355 := Aside0.mk (show y351.length ≤ c89 from by rw [hy89, hc89]; exact Nat.sub_le_sub_right hroom89 _); clear hr89 hC89 hroom89 hi089 hsz89 hc89; have KY89 := Aside0.mk hy89; have KA89 := Aside0.mk hA89; clear hy89 hA89; replace q89 := eq_true q89) | ((with_reducible refine gate_builtin (b := .append) (xs := #[.tmp 100, .tmp 104]) rfl ?_); at_builtin; refine Kd.N_append_rows (Kd.slice 77 k77) w.heap.size rfl (.tmp 100) (.tmp 104) 78 65 (.slice none 0 0) 24 rfl Tryd.underlying78 info65 rfl (by decide) (by omega) v349 y348 y351 _ _ _ (fun k_ => (w.heap.size ≤ k_) ∧ k_ ≠ gb281 ∧ k_ ≠ g) (fun k_ => ((fun k_ => (w.heap.size ≤ k_) ∧ k_ ≠ gb281 ∧ k_ ≠ g)) k_ ∧ some k_ ≠ (v349 : Value).ownBlock) rfl rfl ?aO ?aR (fun _ hk => hk) ?aF (Below.refl _ _) ?aS ?aL ?_; (case aR => exact (by skip; exact Kd.V_F (Kd.V_mono (ok' := (fun k_ => ((fun k_ => (w.heap.size ≤ k_) ∧ k_ ≠ gb281 ∧ k_ ≠ g)) k_ ∧ some k_ ≠ (v349 : Value).ownBlock)) (HO355.out) (fun k_ hk => ⟨⟨hk.1.1, ⟨hk.1.2.2.1, hk.1.2.2.2⟩⟩, hk.2⟩)))); (case aF => exact zcj_151); (case aO => exact (by (with_reducible repeat (first | apply Kd.N_alloc | apply Kd.N_drewN | apply Kd.N_drew)); exact HO350.out)); (case aS => exact zcj_58); (case aL => have := LMc73.out; omega); intro v357 w90 ho hb hg hat; rw [← Ny356.out] at ho; have n0_ := Aside0.mk (Kd.N_afterv (ok := (fun k_ => (w.heap.size ≤ k_) ∧ k_ ≠ gb281 ∧ k_ ≠ g)) (by (with_reducible repeat (first | apply Kd.N_alloc | apply Kd.N_drewN | apply Kd.N_drew)); exact Kd.N_mono HO_7.out (fun _ hk => ⟨⟨hk.1.1, ⟨hk.1.2.2.1, hk.1.2.2.2⟩⟩, hk.2⟩)) hg hat); have n1_ := Aside0.mk (blk_grown (g := gb281) (o := .cells #[.int .i64 a1_0, .slice A1_1 l1_1.length c1_1] 47 (0, 0)) zcj_19 hg (Kd.N_ne HO350.out BK281.out (by decide))); have n2_ := Aside0.mk (IsS63.grown zcj_15 hg (IsS63.own_neN HI0.out HO350.out (by decide))); have n3_ := Aside0.mk (Kd.V_afterv (ok := (fun k_ => (w.heap.size ≤ k_) ∧ some k_ ≠ (.slice (some ad324) x7_3.length co74 : Value).ownBlock ∧ k_ ≠ gb281 ∧ k_ ≠ g)) (by (with_reducible repeat (first | apply Kd.V_alloc | apply Kd.V_drewN | apply Kd.V_drew)); exact Kd.V_mono HL324_0.out (fun _ hk => ⟨⟨hk.1.1, ⟨hk.1.2.1, ⟨hk.1.2.2.2.1, hk.1.2.2.2.2⟩⟩⟩, hk.2⟩)) hg hat); have n4_ := Aside0.mk (Kd.V_afterv (ok := (fun k_ => (w.heap.size ≤ k_) ∧ some k_ ≠ (.slice (some ad324) x7_3.length co74 : Value).ownBlock ∧ k_ ≠ gb281 ∧ k_ ≠ g)) (by (with_reducible repeat (first | apply Kd.V_alloc | apply Kd.V_drewN | apply Kd.V_drew)); exact Kd.V_mono HL328_0.out (fun _ hk => ⟨⟨hk.1.1, ⟨hk.1.2.1, ⟨hk.1.2.2.2.1, hk.1.2.2.2.2⟩⟩⟩, hk.2⟩)) hg hat); have n5_ := Aside0.mk (Kd.V_afterv (ok := (fun k_ => (w.heap.size ≤ k_) ∧ k_ ≠ gb281 ∧ k_ ≠ g)) (by (with_reducible repeat (first | apply Kd.V_alloc | apply Kd.V_drewN | apply Kd.V_drew)); exact Kd.V_mono HO344.out (fun _ hk => ⟨⟨hk.1.1, ⟨hk.1.2.2.1, hk.1.2.2.2⟩⟩, hk.2⟩)) hg hat); have n6_ := Aside0.mk (Kd.V_afterv (ok := (fun k_ => (w.heap.size ≤ k_) ∧ k_ ≠ gb281 ∧ k_ ≠ g)) (by (with_reducible repeat (first | apply Kd.V_alloc | apply Kd.V_drewN | apply Kd.V_drew)); exact Kd.V_mono HO355.out (fun _ hk => ⟨⟨hk.1.1, ⟨hk.1.2.2.1, hk.1.2.2.2⟩⟩, hk.2⟩)) hg hat); have n7_ := Aside0.mk (below_weaken zcj_20 HL.out hb); have n8_ := Aside0.mk (KeepBut.trans zcj_9 (KeepBut.of_grown hg g) (Kd.N_base2 HO350.out)); have n9_ := Aside0.mk (ho); clear HO_7; clear BK281; clear HI0; clear HL324_0; clear HL328_0; clear HO344; clear HO355; clear HB; clear HK; clear HO350; have HO_7 := n0_; have BK281 := n1_; have HI0 := n2_; have HL324_0 := n3_; have HL328_0 := n4_; have HO344 := n5_; have HO355 := n6_; have HB := n7_; have HK := n8_; have HO358 := n9_; clear n0_ n1_ n2_ n3_ n4_ n5_ n6_ n7_ n8_ n9_; clear ho hb hg hat))
 go_roundg k3
 case measure => have := HJ3.out; have := HK2.out; have := HK3.out; omega
 case rel => exact ⟨(y356), (t333), H', ⟨by have := HJ3.out; have := HK2.out; have := HK3.out; omega⟩, ⟨by (with_reducible repeat (first | apply Kd.N_alloc | apply Kd.N_drewN | apply Kd.N_drew)); exact HO358.out⟩, ⟨zcj_19⟩, ⟨zcj_15⟩, ⟨zcj_9⟩, ⟨zcj_20⟩⟩
 }
 {
 rw [if_neg c73] at H
 exact absurd H (by simp)
 }
 }
 {
 rw [if_neg c72] at H
 exact absurd H (by simp)
 }
 }
 {
 rw [if_neg c71] at H
 exact absurd H (by simp)
 }
 }
 {
 rw [if_neg c69] at H
 exact absurd H (by simp)
 }
 }
 {
 rw [if_neg c68] at H
 exact absurd H (by simp)
 }
 }
 {
 rw [if_neg c67] at H
 exact absurd H (by simp)
 }
 }
 {
 rw [if_neg c65] at H
 exact absurd H (by simp)
 }
 }
 {
 rw [if_neg c63] at H
 exact absurd H (by simp)
 }
 }
 {
 rw [if_neg c62] at H
 exact absurd H (by simp)
 }
 }
 {
 rw [if_neg c61] at H
 exact absurd H (by simp)
 }
 }
 {
 rw [if_neg c59] at H
 exact absurd H (by simp)
 }
 }
 {
 rw [if_neg c58] at H
 exact absurd H (by simp)
 }
 }
 {
 rw [if_neg c57] at H
 exact absurd H (by simp)
 }
 }
 {
 rw [if_neg c55] at H
 have c55b0 : decide (1 < (x7_3.length : Int)) = false := decide_eq_false c55
 have c55b1 : decide (1 < x7_3.length) = false := decide_eq_false (by omega)
 clear c55
 by_cases c91 : 0 < (x7_3.length : Int)
 {
 rw [if_pos c91] at H
 have c91b0 : decide (0 < (x7_3.length : Int)) = true := decide_eq_true c91
 have c91b1 : decide (0 < x7_3.length) = true := decide_eq_true (by omega)
 clear c91
 simp only [Option.some.injEq, Prod.mk.injEq] at H
 obtain ⟨rfl, rfl⟩ := H
 obtain ⟨Ao92, co92, eo92⟩ := Kd.N_slice HO_7.out
 subst eo92
 have p359 : 0 ≤ (0 : Int) := (by omega)
 have q359 : 0 < (x7_3.length : Int) := of_decide_eq_true zcj_2
 obtain ⟨ad359, A359_0, c359_0, e359, hx359_0, hl359_0, hi359_0⟩ := at_L6 (Kd.N_reads' HO_7.out).2.2 0 p359 q359
 cases e359
 obtain ⟨ce359, hce359, hMe359, hcc359⟩ := Kd.N_get HO_7.out [] 0 p359 (by first | exact q359 | exact of_decide_eq_true zcj_2 | (have e_ := (Kd.N_reads' HO_7.out).1; omega))
 obtain ⟨ua359_0, uc359_0, rfl, ul359_0, ge359_0⟩ := Kd.FK_slice_open hMe359
 have hv359_0 := hcc359 0 _ rfl
 rw [Nat.add_zero, show ((Kd.slice 77 k77)).sz = 1 from rfl, Nat.mul_one] at hv359_0
 replace hv359_0 := Option.some.inj (hv359_0.symm.trans hx359_0)
 injection hv359_0 with hva_ hvn_ hvc_
 rw [hva_] at ge359_0
 rw [hvc_] at ul359_0
 have HL359_0 := Aside0.mk (show Kd.V k77 77 _ w.heap.size _ _ (rd_L6 x7_3 0) from Kd.V_mk ul359_0 ge359_0)
 clear hva_ hvn_ hvc_ ge359_0 ul359_0
 clear hcc359 hce359
 have qi359 : (0 < x7_3.length) = True := eq_true (by omega)
 (try rw [show ((0 : Int)).toNat = 0 from rfl] at hx359_0)
 (try rw [Addr.add_zero'] at hx359_0)
 have HR359_0 := Aside0.mk hi359_0
 have HC359_0 := Aside0.mk hl359_0
 clear hi359_0 hl359_0
 replace p359 := eq_true p359
 replace q359 := eq_true q359
 go_wp2
 go_ret
 exact ⟨_, zcj_13, by (with_reducible repeat (first | apply Kd.V_alloc | apply Kd.V_drewN | apply Kd.V_drew)); exact Kd.V_mono HL359_0.out (fun _ hk => hk.1.1), zcj_15, zcj_20, zcj_9⟩
 }
 {
 rw [if_neg c91] at H
 exact absurd H (by simp)
 }
 }
 )
 )
 }
 )
 )
 }
 )
 )
end Go.Proofs.YtnkfbappnpnaoaaDoor.Q
