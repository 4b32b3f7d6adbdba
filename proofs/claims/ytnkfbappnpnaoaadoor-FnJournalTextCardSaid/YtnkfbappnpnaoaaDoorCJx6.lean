/- A part of this claim's proof: functions of the program as plain functions, with the proof that the code comes to their answers, and facts about them. Condition: none of its own. -/
import Derived.Test.YtnkfbappnpnaoaaDoorCJx1
import Derived.Test.YtnkfbappnpnaoaaDoorCJx5
import Derived.Test.YtnkfbappnpnaoaaDoorCJz
namespace Go.Proofs.YtnkfbappnpnaoaaDoor.Q
open Go.RowKit Go.Proofs.YtnkfbappnpnaoaaDoorW.PrintWords Go.Proofs.YtnkfbappnpnaoaaDoorW.PrintLast Go.Proofs.YtnkfbappnpnaoaaDoorW.PrintMore
attribute [local go_sem] max2_int min2_int max_two min_two max_three min_three max_four min_four   -- for this text's walks alone
set_option linter.unusedVariables false
set_option linter.unusedSimpArgs false
attribute [local go_sem high] eqA30
mutual
def spec_DeedText.l0 : Nat → Bool → Int → Int → Int → Int → ByteArray → Option (ByteArray)
  | 0, _, _, _, _, _, _ => none
  | k + 1, x3, x4, x109000, x109001, x109002, x109003 => if x4 < (x109003.size : Int) then (if x3 = true then (if 0 ≤ x4 then (if (bt x109003 x4) = 32 then (spec_DeedText.l0 k false (wrap64 (x4 + 1)) x109000 x109001 x109002 x109003) else (spec_DeedText.l0 k ((bt x109003 x4) != 10) (wrap64 (x4 + 1)) x109000 x109001 x109002 x109003)) else (none)) else (spec_DeedText.l0 k false (wrap64 (x4 + 1)) x109000 x109001 x109002 x109003)) else ((spec_l1In.f x109001 0 99).bind fun t109 => (if t109 = true then ((spec_l1In.f x109002 0 99).bind fun t110 => (spec_DeedText.j1 k x3 (!t110) x109000 x109001 x109002 x109003)) else (spec_DeedText.j1 k x3 true x109000 x109001 x109002 x109003)))
def spec_DeedText.j1 : Nat → Bool → Bool → Int → Int → Int → ByteArray → Option (ByteArray)
  | 0, _, _, _, _, _, _ => none
  | k + 1, x3, x31, x109000, x109001, x109002, x109003 => if x31 = true then (some (⟨#[]⟩ : ByteArray)) else (if (x109000 == 0 && (x109002 == 0 && (x109003.toList == ([] : List UInt8)))) = true then ((spec_l1Number.f k x109001).bind fun t111 => (if 5 + t111.size ≤ 9223372036854775807 then (some ((⟨#[98, 111, 100, 121, 32]⟩ : ByteArray) ++ t111)) else (none))) else (if (x109000 == 1 && (x109001 == 0 && (x109002 == 0))) = true then (spec_DeedText.j2 k x3 x3 x109000 x109001 x109002 x109003) else (spec_DeedText.j2 k x3 false x109000 x109001 x109002 x109003)))
def spec_DeedText.j2 : Nat → Bool → Bool → Int → Int → Int → ByteArray → Option (ByteArray)
  | 0, _, _, _, _, _, _ => none
  | k + 1, x3, x52, x109000, x109001, x109002, x109003 => if x52 = true then (if 5 + x109003.size ≤ 9223372036854775807 then (some ((⟨#[114, 117, 108, 101, 32]⟩ : ByteArray) ++ x109003)) else (none)) else (if x109000 = 2 then (spec_DeedText.j3 k x3 x109000 x109001 x109002 x109003) else (spec_DeedText.j3 k false x109000 x109001 x109002 x109003))
def spec_DeedText.j3 : Nat → Bool → Int → Int → Int → ByteArray → Option (ByteArray)
  | 0, _, _, _, _, _ => none
  | k + 1, x64, x109000, x109001, x109002, x109003 => if x64 = true then ((spec_l1Number.f k x109001).bind fun t112 => (if 6 + t112.size ≤ 9223372036854775807 then (if ((⟨#[97, 109, 101, 110, 100, 32]⟩ : ByteArray) ++ t112).size + 1 ≤ 9223372036854775807 then ((spec_l1Number.f k x109002).bind fun t113 => (if (((⟨#[97, 109, 101, 110, 100, 32]⟩ : ByteArray) ++ t112) ++ (⟨#[32]⟩ : ByteArray)).size + t113.size ≤ 9223372036854775807 then (if ((((⟨#[97, 109, 101, 110, 100, 32]⟩ : ByteArray) ++ t112) ++ (⟨#[32]⟩ : ByteArray)) ++ t113).size + 1 ≤ 9223372036854775807 then (if (((((⟨#[97, 109, 101, 110, 100, 32]⟩ : ByteArray) ++ t112) ++ (⟨#[32]⟩ : ByteArray)) ++ t113) ++ (⟨#[32]⟩ : ByteArray)).size + x109003.size ≤ 9223372036854775807 then (some ((((((⟨#[97, 109, 101, 110, 100, 32]⟩ : ByteArray) ++ t112) ++ (⟨#[32]⟩ : ByteArray)) ++ t113) ++ (⟨#[32]⟩ : ByteArray)) ++ x109003)) else (none)) else (none)) else (none))) else (none)) else (none))) else (if (x109000 == 3 && (x109003.toList == ([] : List UInt8))) = true then ((spec_l1Number.f k x109001).bind fun t114 => (if 5 + t114.size ≤ 9223372036854775807 then (if ((⟨#[100, 114, 111, 112, 32]⟩ : ByteArray) ++ t114).size + 1 ≤ 9223372036854775807 then ((spec_l1Number.f k x109002).bind fun t115 => (if (((⟨#[100, 114, 111, 112, 32]⟩ : ByteArray) ++ t114) ++ (⟨#[32]⟩ : ByteArray)).size + t115.size ≤ 9223372036854775807 then (some ((((⟨#[100, 114, 111, 112, 32]⟩ : ByteArray) ++ t114) ++ (⟨#[32]⟩ : ByteArray)) ++ t115)) else (none))) else (none)) else (none))) else (if (x109000 == 4 && (x109001 == 0 && (x109002 == 0 && (x109003.toList == ([] : List UInt8))))) = true then (some (⟨#[98, 97, 99, 107]⟩ : ByteArray)) else (some (⟨#[]⟩ : ByteArray))))
end
def spec_DeedText.f (k : Nat) (a0_0 : Int) (a0_1 : Int) (a0_2 : Int) (a0_3 : ByteArray) : Option (ByteArray) := spec_DeedText.l0 k (decide ((a0_3.size : Int) > 0)) 0 a0_0 a0_1 a0_2 a0_3
def spec_DeedText.T13 : Bool × List (List Nat × List Nat) := (true, [([], []), ([0], [0]), ([1], [1]), ([2], [2]), ([3], [3]), ([], []), ([5], [5]), ([6, 2], [6]), ([4, 7], [4, 7]), ([8], [8]), ([], []), ([10], [10]), ([9, 11], [9, 11]), ([12, 7, 0, 1, 2, 3, 4, 5, 6, 7, 8, 9, 10, 11, 12], [12])])
def spec_DeedText.B13 : List Nat := [0, 1, 3, 7, 15, 0, 32, 103, 255, 511, 0, 1024, 4095, 8191]
theorem spec_DeedText.tab13 : rtab .any (opsOf Tryd.f14 13) = spec_DeedText.T13 := by kernel_rfl
theorem spec_DeedText.bits13 : waitsOk spec_DeedText.T13.2 spec_DeedText.B13 = true := by kernel_rfl
def spec_DeedText.T15 : Bool × List (List Nat × List Nat) := (true, [([], []), ([0], [0]), ([1], [1]), ([2], [2]), ([3], [3]), ([], []), ([5], [5]), ([6, 2], [6]), ([4, 7], [4, 7]), ([8, 7, 0, 1, 2, 3, 4, 5, 6, 7, 8], [8])])
def spec_DeedText.B15 : List Nat := [0, 1, 3, 7, 15, 0, 32, 103, 255, 511]
theorem spec_DeedText.tab15 : rtab .any (opsOf Tryd.f14 15) = spec_DeedText.T15 := by kernel_rfl
theorem spec_DeedText.bits15 : waitsOk spec_DeedText.T15.2 spec_DeedText.B15 = true := by kernel_rfl
set_option maxHeartbeats 8000000 in
set_option maxRecDepth 100000 in
theorem spec_DeedText.calls (k : Nat) (a0_0 : Int) (a0_1 : Int) (a0_2 : Int) (a0_3 : ByteArray) (r : ByteArray) (w : World) (h : spec_DeedText.f k a0_0 a0_1 a0_2 a0_3 = some r) :
    Calls Tryd.prog 14 #[.agg #[.int .i64 a0_0, .int .i64 a0_1, .int .i64 a0_2, .string a0_3]] w fun e w' => e = .returned (.string r) ∧ Below w.heap.size w w' := by
 have hu30 := Tryd.underlying30
 have HB := Aside0.mk (Below.refl w.heap.size w)
 have H : (spec_DeedText.l0 k (decide ((a0_3.size : Int) > 0)) 0 a0_0 a0_1 a0_2 a0_3) = some r := h
 clear h
 have H' := Aside0.mk H
 clear H
 go_enter Tryd.func14, Tryd.ntmps14
 go_wp2_with (first | ((with_reducible refine gate_dst (N := 1) rfl ?_); refine box_event ?hg (N := 1) ?hd (cs := #[.int .i64 a0_0, .int .i64 a0_1, .int .i64 a0_2, .string a0_3]) (t := 30) ?hr ?_; (case hd => rfl); (case hg => rfl); (case hr => exact zcj_12); intro gb108 hg w2 hbox hb; have n0_ := Aside0.mk (below_step zcj_5 hb); have n1_ := Aside0.mk (hbox); have n2_ := Aside0.mk ((zcj_36 : w.heap.size ≤ gb108)); have n3_ := Aside0.mk ((zcj_36 : w.heap.size ≤ gb108)); clear HB; have HB := n0_; have BK108 := n1_; have GW108 := n2_; have GE108 := n3_; clear n0_ n1_ n2_ n3_; clear hb hbox hg; have hcz3_0 : w2.cell? ⟨gb108, 0, none⟩ = some (.int .i64 a0_0) := (blk_cell BK108.out 0).trans rfl; have hcz3_1 : w2.cell? ⟨gb108, 1, none⟩ = some (.int .i64 a0_1) := (blk_cell BK108.out 1).trans rfl; have hcz3_2 : w2.cell? ⟨gb108, 2, none⟩ = some (.int .i64 a0_2) := (blk_cell BK108.out 2).trans rfl; have hcz3_3 : w2.cell? ⟨gb108, 3, none⟩ = some (.string a0_3) := (blk_cell BK108.out 3).trans rfl; have hfz3_0 := blk_frozen BK108.out 0; have hfz3_1 := blk_frozen BK108.out 1; have hfz3_2 := blk_frozen BK108.out 2; have hfz3_3 := blk_frozen BK108.out 3))
 go_loopg [3, 4] k (fun kq v3 v4 w' => ∃ (x3_1 : Bool) (x4_1 : Int), v3 = .bool x3_1 ∧ v4 = .int .i64 x4_1 ∧ Aside0 (spec_DeedText.l0 kq x3_1 x4_1 a0_0 a0_1 a0_2 a0_3 = some r) ∧ Aside0 (kq ≤ k) ∧ Aside0 (w'.heap[gb108]? = some (.cells #[.int .i64 a0_0, .int .i64 a0_1, .int .i64 a0_2, .string a0_3] 30 (0, 0))) ∧ Aside0 (Below w.heap.size w w'))
 case atStart => exact ⟨(decide ((a0_3.size : Int) > 0)), (0), zcj_4, zcj_4, H', ⟨Nat.le_refl _⟩, ⟨zcj_43⟩, ⟨zcj_32⟩⟩
 case round =>(
 clear H'
 obtain ⟨x3_1, x4_1, rfl, rfl, HA, HK1, BK108, HB⟩ := hrel
 cases gk with
 | zero => exact absurd HA.out (by simp [spec_DeedText.l0])
 | succ k1 =>(
 have H := HA.out
 clear HA
 simp only [spec_DeedText.l0] at H
 by_cases c4 : x4_1 < (a0_3.size : Int)
 {
 rw [if_pos c4] at H
 have c4b0 : decide (x4_1 < (a0_3.size : Int)) = true := decide_eq_true c4
 clear c4
 by_cases c5 : x3_1 = true
 {
 subst c5
 rw [if_pos rfl] at H
 by_cases c6 : 0 ≤ x4_1
 {
 rw [if_pos c6] at H
 have c6b0 : decide (0 ≤ x4_1) = true := decide_eq_true c6
 clear c6
 by_cases c8 : (bt a0_3 x4_1) = 32
 {
 rw [if_pos c8] at H
 have c8b0 : ((bt a0_3 x4_1) == 32) = true := beq_iff_eq.mpr c8
 have c8b1 : ((bt a0_3 x4_1) != 32) = false := bne_eq_false_iff_eq.mpr c8
 clear c8
 have H' := Aside0.mk H
 clear H
 have hcz9_0 : wr.cell? ⟨gb108, 0, none⟩ = some (.int .i64 a0_0) := (blk_cell BK108.out 0).trans rfl
 have hcz9_1 : wr.cell? ⟨gb108, 1, none⟩ = some (.int .i64 a0_1) := (blk_cell BK108.out 1).trans rfl
 have hcz9_2 : wr.cell? ⟨gb108, 2, none⟩ = some (.int .i64 a0_2) := (blk_cell BK108.out 2).trans rfl
 have hcz9_3 : wr.cell? ⟨gb108, 3, none⟩ = some (.string a0_3) := (blk_cell BK108.out 3).trans rfl
 have hfz9_0 := blk_frozen BK108.out 0
 have hfz9_1 := blk_frozen BK108.out 1
 have hfz9_2 := blk_frozen BK108.out 2
 have hfz9_3 := blk_frozen BK108.out 3
 have p7 : 0 ≤ (x4_1 : Int) := of_decide_eq_true zcj_2
 have q7 : x4_1 < (a0_3.size : Int) := of_decide_eq_true zcj_2
 have hx7 := bt_at a0_3 x4_1
 replace p7 := eq_true p7
 replace q7 := eq_true q7
 go_wp2
 go_roundg k1
 case measure => have := HK1.out; omega
 case rel => exact ⟨(false), (wrap64 (x4_1 + 1)), zcj_4, zcj_4, H', ⟨by have := HK1.out; omega⟩, ⟨zcj_43⟩, ⟨zcj_32⟩⟩
 }
 {
 rw [if_neg c8] at H
 have c8b0 : ((bt a0_3 x4_1) == 32) = false := beq_eq_false_iff_ne.mpr c8
 have c8b1 : ((bt a0_3 x4_1) != 32) = true := bne_iff_ne.mpr c8
 have H' := Aside0.mk H
 clear H
 have hcz11_0 : wr.cell? ⟨gb108, 0, none⟩ = some (.int .i64 a0_0) := (blk_cell BK108.out 0).trans rfl
 have hcz11_1 : wr.cell? ⟨gb108, 1, none⟩ = some (.int .i64 a0_1) := (blk_cell BK108.out 1).trans rfl
 have hcz11_2 : wr.cell? ⟨gb108, 2, none⟩ = some (.int .i64 a0_2) := (blk_cell BK108.out 2).trans rfl
 have hcz11_3 : wr.cell? ⟨gb108, 3, none⟩ = some (.string a0_3) := (blk_cell BK108.out 3).trans rfl
 have hfz11_0 := blk_frozen BK108.out 0
 have hfz11_1 := blk_frozen BK108.out 1
 have hfz11_2 := blk_frozen BK108.out 2
 have hfz11_3 := blk_frozen BK108.out 3
 have p7 : 0 ≤ (x4_1 : Int) := of_decide_eq_true zcj_2
 have q7 : x4_1 < (a0_3.size : Int) := of_decide_eq_true zcj_2
 have hx7 := bt_at a0_3 x4_1
 replace p7 := eq_true p7
 replace q7 := eq_true q7
 have p10 : 0 ≤ (x4_1 : Int) := of_decide_eq_true zcj_2
 have q10 : x4_1 < (a0_3.size : Int) := of_decide_eq_true zcj_2
 have hx10 := bt_at a0_3 x4_1
 replace p10 := eq_true p10
 replace q10 := eq_true q10
 go_wp2
 go_roundg k1
 case measure => have := HK1.out; omega
 case rel => exact ⟨(((bt a0_3 x4_1) != 10)), (wrap64 (x4_1 + 1)), zcj_4, zcj_4, H', ⟨by have := HK1.out; omega⟩, ⟨zcj_43⟩, ⟨zcj_32⟩⟩
 }
 }
 {
 rw [if_neg c6] at H
 exact absurd H (by simp)
 }
 }
 {
 replace c5 := Bool.eq_false_iff.mpr c5
 subst c5
 rw [if_neg (show ¬ (false = true) by decide)] at H
 have H' := Aside0.mk H
 clear H
 have hcz12_0 : wr.cell? ⟨gb108, 0, none⟩ = some (.int .i64 a0_0) := (blk_cell BK108.out 0).trans rfl
 have hcz12_1 : wr.cell? ⟨gb108, 1, none⟩ = some (.int .i64 a0_1) := (blk_cell BK108.out 1).trans rfl
 have hcz12_2 : wr.cell? ⟨gb108, 2, none⟩ = some (.int .i64 a0_2) := (blk_cell BK108.out 2).trans rfl
 have hcz12_3 : wr.cell? ⟨gb108, 3, none⟩ = some (.string a0_3) := (blk_cell BK108.out 3).trans rfl
 have hfz12_0 := blk_frozen BK108.out 0
 have hfz12_1 := blk_frozen BK108.out 1
 have hfz12_2 := blk_frozen BK108.out 2
 have hfz12_3 := blk_frozen BK108.out 3
 go_wp2
 go_roundg k1
 case measure => have := HK1.out; omega
 case rel => exact ⟨(false), (wrap64 (x4_1 + 1)), zcj_4, zcj_4, H', ⟨by have := HK1.out; omega⟩, ⟨zcj_43⟩, ⟨zcj_32⟩⟩
 }
 }
 {
 rw [if_neg c4] at H
 have c4b0 : decide (x4_1 < (a0_3.size : Int)) = false := decide_eq_false c4
 clear c4
 have HC13 := Aside0.mk H
 clear H
 have hcz14_0 : wr.cell? ⟨gb108, 0, none⟩ = some (.int .i64 a0_0) := (blk_cell BK108.out 0).trans rfl
 have hcz14_1 : wr.cell? ⟨gb108, 1, none⟩ = some (.int .i64 a0_1) := (blk_cell BK108.out 1).trans rfl
 have hcz14_2 : wr.cell? ⟨gb108, 2, none⟩ = some (.int .i64 a0_2) := (blk_cell BK108.out 2).trans rfl
 have hcz14_3 : wr.cell? ⟨gb108, 3, none⟩ = some (.string a0_3) := (blk_cell BK108.out 3).trans rfl
 have hfz14_0 := blk_frozen BK108.out 0
 have hfz14_1 := blk_frozen BK108.out 1
 have hfz14_2 := blk_frozen BK108.out 2
 have hfz14_3 := blk_frozen BK108.out 3
 go_upto_region 6 with (fail)
 go_cut [31] (fun v31 wc => ∃ (kq : Nat) (x31_12 : Bool), v31 = .bool x31_12 ∧ Aside0 (spec_DeedText.j1 kq x3_1 x31_12 a0_0 a0_1 a0_2 a0_3 = some r) ∧ Aside0 (kq ≤ k1) ∧ Aside0 (wc.heap[gb108]? = some (.cells #[.int .i64 a0_0, .int .i64 a0_1, .int .i64 a0_2, .string a0_3] 30 (0, 0))) ∧ Aside0 (Below w.heap.size w wc))
 case first =>(
 have H := HC13.out
 clear HC13
 replace H := Option.bind_eq_some_iff.mp H
 obtain ⟨t109, A150, H⟩ := H
 try dsimp only at H
 have A15 := Aside0.mk A150
 clear A150
 by_cases c16 : t109 = true
 {
 subst c16
 rw [if_pos rfl] at H
 replace H := Option.bind_eq_some_iff.mp H
 obtain ⟨t110, A170, H⟩ := H
 try dsimp only at H
 have A17 := Aside0.mk A170
 clear A170
 have H' := Aside0.mk H
 clear H
 have hcz18_0 : wr.cell? ⟨gb108, 0, none⟩ = some (.int .i64 a0_0) := (blk_cell BK108.out 0).trans rfl
 have hcz18_1 : wr.cell? ⟨gb108, 1, none⟩ = some (.int .i64 a0_1) := (blk_cell BK108.out 1).trans rfl
 have hcz18_2 : wr.cell? ⟨gb108, 2, none⟩ = some (.int .i64 a0_2) := (blk_cell BK108.out 2).trans rfl
 have hcz18_3 : wr.cell? ⟨gb108, 3, none⟩ = some (.string a0_3) := (blk_cell BK108.out 3).trans rfl
 have hfz18_0 := blk_frozen BK108.out 0
 have hfz18_1 := blk_frozen BK108.out 1
 have hfz18_2 := blk_frozen BK108.out 2
 have hfz18_3 := blk_frozen BK108.out 3
 go_wp2_with (first | ((with_reducible refine gate_callee (f := 30) rfl ?_); refine goesL_ (some 34) rfl rfl Tryd.func30 (by kernel_rfl) rfl #[.int .i64 a0_1, .int .i64 0, .int .i64 99] rfl zcj_3 ?_; (with_reducible refine (spec_l1In.calls a0_1 0 99 true _ A15.out).mono ?_); rintro e w' ⟨rfl, ⟨nd, rfl⟩⟩; refine ⟨_, rfl, ?_⟩) | (go_at_call 30; (with_reducible refine (spec_l1In.calls a0_2 0 99 t110 _ A17.out).mono ?_); rintro e w' ⟨rfl, ⟨nd, rfl⟩⟩))
 go_meet
 case rel => exact ⟨_, (!t110), zcj_4, H', ⟨zcj_81⟩, ⟨zcj_43⟩, ⟨zcj_32⟩⟩
 }
 {
 replace c16 := Bool.eq_false_iff.mpr c16
 subst c16
 rw [if_neg (show ¬ (false = true) by decide)] at H
 have H' := Aside0.mk H
 clear H
 have hcz19_0 : wr.cell? ⟨gb108, 0, none⟩ = some (.int .i64 a0_0) := (blk_cell BK108.out 0).trans rfl
 have hcz19_1 : wr.cell? ⟨gb108, 1, none⟩ = some (.int .i64 a0_1) := (blk_cell BK108.out 1).trans rfl
 have hcz19_2 : wr.cell? ⟨gb108, 2, none⟩ = some (.int .i64 a0_2) := (blk_cell BK108.out 2).trans rfl
 have hcz19_3 : wr.cell? ⟨gb108, 3, none⟩ = some (.string a0_3) := (blk_cell BK108.out 3).trans rfl
 have hfz19_0 := blk_frozen BK108.out 0
 have hfz19_1 := blk_frozen BK108.out 1
 have hfz19_2 := blk_frozen BK108.out 2
 have hfz19_3 := blk_frozen BK108.out 3
 go_wp2_with (first | ((with_reducible refine gate_callee (f := 30) rfl ?_); refine goesL_ (some 34) rfl rfl Tryd.func30 (by kernel_rfl) rfl #[.int .i64 a0_1, .int .i64 0, .int .i64 99] rfl zcj_3 ?_; (with_reducible refine (spec_l1In.calls a0_1 0 99 false _ A15.out).mono ?_); rintro e w' ⟨rfl, ⟨nd, rfl⟩⟩; refine ⟨_, rfl, ?_⟩))
 go_meet
 case rel => exact ⟨_, (true), zcj_4, H', ⟨zcj_81⟩, ⟨zcj_43⟩, ⟨zcj_32⟩⟩
 }
 )
 case rest =>(
 clear HC13
 obtain ⟨kq, x31_12, rfl, HA, HJ12, BK108, HB⟩ := hcut
 cases kq with
 | zero => exact absurd HA.out (by simp [spec_DeedText.j1])
 | succ kj12 =>(
 have H := HA.out
 clear HA
 simp only [spec_DeedText.j1] at H
 by_cases c20 : x31_12 = true
 {
 subst c20
 rw [if_pos rfl] at H
 obtain rfl := Option.some.inj H
 go_wp2
 go_ret
 exact ⟨zcj_13, zcj_32⟩
 }
 {
 replace c20 := Bool.eq_false_iff.mpr c20
 subst c20
 rw [if_neg (show ¬ (false = true) by decide)] at H
 by_cases c21 : (a0_0 == 0 && (a0_2 == 0 && (a0_3.toList == ([] : List UInt8)))) = true
 {
 rw [if_pos c21] at H
 have c21b0 : (a0_0 == 0 && (a0_2 == 0 && (a0_3.toList == ([] : List UInt8)))) = true := c21
 have c21be : (a0_0 == 0 && (a0_2 == 0 && a0_3.toList.isEmpty)) = true := by simpa using c21b0
 (try (have c21b1 : decide (a0_0 = 0 && (a0_2 == 0 && (a0_3.toList == ([] : List UInt8)))) = true := by simpa using c21))
 (try (have c21b2 : (a0_0 == 0 && (a0_2 == 0 && (a0_3.toList == ([] : List UInt8)))) = true := by simpa using c21))
 clear c21
 replace H := Option.bind_eq_some_iff.mp H
 obtain ⟨t111, A220, H⟩ := H
 try dsimp only at H
 have A22 := Aside0.mk A220
 clear A220
 by_cases c23 : 5 + t111.size ≤ 9223372036854775807
 {
 rw [if_pos c23] at H
 have c23b0 := eq_true c23
 have c23b1 : decide (5 + t111.size ≤ 9223372036854775807) = true := decide_eq_true c23
 try have c23b2 : (9223372036854775807 < 5 + t111.size) = False := eq_false (Nat.not_lt.2 c23)
 obtain rfl := Option.some.inj H
 have hcz24_0 : wc.cell? ⟨gb108, 0, none⟩ = some (.int .i64 a0_0) := (blk_cell BK108.out 0).trans rfl
 have hcz24_1 : wc.cell? ⟨gb108, 1, none⟩ = some (.int .i64 a0_1) := (blk_cell BK108.out 1).trans rfl
 have hcz24_2 : wc.cell? ⟨gb108, 2, none⟩ = some (.int .i64 a0_2) := (blk_cell BK108.out 2).trans rfl
 have hcz24_3 : wc.cell? ⟨gb108, 3, none⟩ = some (.string a0_3) := (blk_cell BK108.out 3).trans rfl
 have hfz24_0 := blk_frozen BK108.out 0
 have hfz24_1 := blk_frozen BK108.out 1
 have hfz24_2 := blk_frozen BK108.out 2
 have hfz24_3 := blk_frozen BK108.out 3
 go_wp2_with (first | ((with_reducible refine gate_callee (f := 31) rfl ?_); refine goesL_ (some 50) rfl rfl Tryd.func31 (by kernel_rfl) rfl #[.int .i64 a0_1] rfl zcj_3 ?_; (with_reducible refine (spec_l1Number.calls kj12 a0_1 t111 _ A22.out).mono ?_); rintro e w25 ⟨rfl, hb⟩; refine ⟨_, rfl, ?_⟩; refine zcj_f4 ?_; clear BK108; clear HB; intro BK108 HB; (try clear hb); (try clear hb2); (try clear hk); (try clear hi)))
 go_ret
 exact ⟨zcj_13, zcj_32⟩
 }
 {
 rw [if_neg c23] at H
 exact absurd H (by simp)
 }
 }
 {
 rw [if_neg c21] at H
 have c21b0 : (a0_0 == 0 && (a0_2 == 0 && (a0_3.toList == ([] : List UInt8)))) = false := by simpa using c21
 have c21be : (a0_0 == 0 && (a0_2 == 0 && a0_3.toList.isEmpty)) = false := by simpa using c21b0
 (try (have c21b1 : decide (a0_0 = 0 && (a0_2 == 0 && (a0_3.toList == ([] : List UInt8)))) = false := by simpa using c21))
 (try (have c21b2 : (a0_0 == 0 && (a0_2 == 0 && (a0_3.toList == ([] : List UInt8)))) = false := by simpa using c21))
 (try (have c21b3 : ¬ (a0_0 = 0 && (a0_2 == 0 && (a0_3.toList == ([] : List UInt8)))) := by simpa using c21))
 clear c21
 have HC26 := Aside0.mk H
 clear H
 have hcz27_0 : wc.cell? ⟨gb108, 0, none⟩ = some (.int .i64 a0_0) := (blk_cell BK108.out 0).trans rfl
 have hcz27_1 : wc.cell? ⟨gb108, 1, none⟩ = some (.int .i64 a0_1) := (blk_cell BK108.out 1).trans rfl
 have hcz27_2 : wc.cell? ⟨gb108, 2, none⟩ = some (.int .i64 a0_2) := (blk_cell BK108.out 2).trans rfl
 have hcz27_3 : wc.cell? ⟨gb108, 3, none⟩ = some (.string a0_3) := (blk_cell BK108.out 3).trans rfl
 have hfz27_0 := blk_frozen BK108.out 0
 have hfz27_1 := blk_frozen BK108.out 1
 have hfz27_2 := blk_frozen BK108.out 2
 have hfz27_3 := blk_frozen BK108.out 3
 go_upto_region 10 with (fail)
 go_cut [52] (fun v52 wc => ∃ (kq : Nat) (x52_25 : Bool), v52 = .bool x52_25 ∧ Aside0 (spec_DeedText.j2 kq x3_1 x52_25 a0_0 a0_1 a0_2 a0_3 = some r) ∧ Aside0 (kq ≤ kj12) ∧ Aside0 (wc.heap[gb108]? = some (.cells #[.int .i64 a0_0, .int .i64 a0_1, .int .i64 a0_2, .string a0_3] 30 (0, 0))) ∧ Aside0 (Below w.heap.size w wc))
 case first =>(
 have H := HC26.out
 clear HC26
 by_cases c28 : (a0_0 == 1 && (a0_1 == 0 && (a0_2 == 0))) = true
 {
 rw [if_pos c28] at H
 have c28b0 : (a0_0 == 1 && (a0_1 == 0 && (a0_2 == 0))) = true := c28
 (try (have c28b1 : decide (a0_0 = 1 && (a0_1 == 0 && (a0_2 == 0))) = true := by simpa using c28))
 (try (have c28b2 : (a0_0 == 1 && (a0_1 == 0 && (a0_2 == 0))) = true := by simpa using c28))
 clear c28
 (first | rw [c28b0] | (simp only [i64_w, i32_w]; rw [c28b0]) | skip)
 have H' := Aside0.mk H
 clear H
 have hcz29_0 : wc.cell? ⟨gb108, 0, none⟩ = some (.int .i64 a0_0) := (blk_cell BK108.out 0).trans rfl
 have hcz29_1 : wc.cell? ⟨gb108, 1, none⟩ = some (.int .i64 a0_1) := (blk_cell BK108.out 1).trans rfl
 have hcz29_2 : wc.cell? ⟨gb108, 2, none⟩ = some (.int .i64 a0_2) := (blk_cell BK108.out 2).trans rfl
 have hcz29_3 : wc.cell? ⟨gb108, 3, none⟩ = some (.string a0_3) := (blk_cell BK108.out 3).trans rfl
 have hfz29_0 := blk_frozen BK108.out 0
 have hfz29_1 := blk_frozen BK108.out 1
 have hfz29_2 := blk_frozen BK108.out 2
 have hfz29_3 := blk_frozen BK108.out 3
 go_wp2
 go_meet
 case rel => exact ⟨_, (x3_1), zcj_4, H', ⟨zcj_134⟩, ⟨zcj_43⟩, ⟨zcj_32⟩⟩
 }
 {
 rw [if_neg c28] at H
 have c28b0 : (a0_0 == 1 && (a0_1 == 0 && (a0_2 == 0))) = false := by simpa using c28
 (try (have c28b1 : decide (a0_0 = 1 && (a0_1 == 0 && (a0_2 == 0))) = false := by simpa using c28))
 (try (have c28b2 : (a0_0 == 1 && (a0_1 == 0 && (a0_2 == 0))) = false := by simpa using c28))
 (try (have c28b3 : ¬ (a0_0 = 1 && (a0_1 == 0 && (a0_2 == 0))) := by simpa using c28))
 clear c28
 (first | rw [c28b0] | (simp only [i64_w, i32_w]; rw [c28b0]) | skip)
 have H' := Aside0.mk H
 clear H
 have hcz30_0 : wc.cell? ⟨gb108, 0, none⟩ = some (.int .i64 a0_0) := (blk_cell BK108.out 0).trans rfl
 have hcz30_1 : wc.cell? ⟨gb108, 1, none⟩ = some (.int .i64 a0_1) := (blk_cell BK108.out 1).trans rfl
 have hcz30_2 : wc.cell? ⟨gb108, 2, none⟩ = some (.int .i64 a0_2) := (blk_cell BK108.out 2).trans rfl
 have hcz30_3 : wc.cell? ⟨gb108, 3, none⟩ = some (.string a0_3) := (blk_cell BK108.out 3).trans rfl
 have hfz30_0 := blk_frozen BK108.out 0
 have hfz30_1 := blk_frozen BK108.out 1
 have hfz30_2 := blk_frozen BK108.out 2
 have hfz30_3 := blk_frozen BK108.out 3
 go_wp2
 go_meet
 case rel => exact ⟨_, (false), zcj_4, H', ⟨zcj_134⟩, ⟨zcj_43⟩, ⟨zcj_32⟩⟩
 }
 )
 case rest =>(
 clear HC26
 obtain ⟨kq, x52_25, rfl, HA, HJ25, BK108, HB⟩ := hcut
 cases kq with
 | zero => exact absurd HA.out (by simp [spec_DeedText.j2])
 | succ kj25 =>(
 have H := HA.out
 clear HA
 simp only [spec_DeedText.j2] at H
 by_cases c31 : x52_25 = true
 {
 subst c31
 rw [if_pos rfl] at H
 by_cases c32 : 5 + a0_3.size ≤ 9223372036854775807
 {
 rw [if_pos c32] at H
 have c32b0 := eq_true c32
 have c32b1 : decide (5 + a0_3.size ≤ 9223372036854775807) = true := decide_eq_true c32
 try have c32b2 : (9223372036854775807 < 5 + a0_3.size) = False := eq_false (Nat.not_lt.2 c32)
 obtain rfl := Option.some.inj H
 have hcz33_0 : wc.cell? ⟨gb108, 0, none⟩ = some (.int .i64 a0_0) := (blk_cell BK108.out 0).trans rfl
 have hcz33_1 : wc.cell? ⟨gb108, 1, none⟩ = some (.int .i64 a0_1) := (blk_cell BK108.out 1).trans rfl
 have hcz33_2 : wc.cell? ⟨gb108, 2, none⟩ = some (.int .i64 a0_2) := (blk_cell BK108.out 2).trans rfl
 have hcz33_3 : wc.cell? ⟨gb108, 3, none⟩ = some (.string a0_3) := (blk_cell BK108.out 3).trans rfl
 have hfz33_0 := blk_frozen BK108.out 0
 have hfz33_1 := blk_frozen BK108.out 1
 have hfz33_2 := blk_frozen BK108.out 2
 have hfz33_3 := blk_frozen BK108.out 3
 go_wp2
 go_ret
 exact ⟨zcj_13, zcj_32⟩
 }
 {
 rw [if_neg c32] at H
 exact absurd H (by simp)
 }
 }
 {
 replace c31 := Bool.eq_false_iff.mpr c31
 subst c31
 rw [if_neg (show ¬ (false = true) by decide)] at H
 have HC34 := Aside0.mk H
 clear H
 go_upto_region 12 with (fail)
 go_cut [64] (fun v64 wc => ∃ (kq : Nat) (x64_33 : Bool), v64 = .bool x64_33 ∧ Aside0 (spec_DeedText.j3 kq x64_33 a0_0 a0_1 a0_2 a0_3 = some r) ∧ Aside0 (kq ≤ kj25) ∧ Aside0 (wc.heap[gb108]? = some (.cells #[.int .i64 a0_0, .int .i64 a0_1, .int .i64 a0_2, .string a0_3] 30 (0, 0))) ∧ Aside0 (Below w.heap.size w wc))
 case first =>(
 have H := HC34.out
 clear HC34
 by_cases c35 : a0_0 = 2
 {
 rw [if_pos c35] at H
 have c35b0 : (a0_0 == 2) = true := beq_iff_eq.mpr c35
 have c35b1 : (a0_0 != 2) = false := bne_eq_false_iff_eq.mpr c35
 clear c35
 (first | rw [c35b0] | (simp only [i64_w, i32_w]; rw [c35b0]) | skip)
 have H' := Aside0.mk H
 clear H
 have hcz36_0 : wc.cell? ⟨gb108, 0, none⟩ = some (.int .i64 a0_0) := (blk_cell BK108.out 0).trans rfl
 have hcz36_1 : wc.cell? ⟨gb108, 1, none⟩ = some (.int .i64 a0_1) := (blk_cell BK108.out 1).trans rfl
 have hcz36_2 : wc.cell? ⟨gb108, 2, none⟩ = some (.int .i64 a0_2) := (blk_cell BK108.out 2).trans rfl
 have hcz36_3 : wc.cell? ⟨gb108, 3, none⟩ = some (.string a0_3) := (blk_cell BK108.out 3).trans rfl
 have hfz36_0 := blk_frozen BK108.out 0
 have hfz36_1 := blk_frozen BK108.out 1
 have hfz36_2 := blk_frozen BK108.out 2
 have hfz36_3 := blk_frozen BK108.out 3
 go_wp2
 go_meet
 case rel => exact ⟨_, (x3_1), zcj_4, H', ⟨zcj_135⟩, ⟨zcj_43⟩, ⟨zcj_32⟩⟩
 }
 {
 rw [if_neg c35] at H
 have c35b0 : (a0_0 == 2) = false := beq_eq_false_iff_ne.mpr c35
 have c35b1 : (a0_0 != 2) = true := bne_iff_ne.mpr c35
 (first | rw [c35b0] | (simp only [i64_w, i32_w]; rw [c35b0]) | skip)
 have H' := Aside0.mk H
 clear H
 have hcz37_0 : wc.cell? ⟨gb108, 0, none⟩ = some (.int .i64 a0_0) := (blk_cell BK108.out 0).trans rfl
 have hcz37_1 : wc.cell? ⟨gb108, 1, none⟩ = some (.int .i64 a0_1) := (blk_cell BK108.out 1).trans rfl
 have hcz37_2 : wc.cell? ⟨gb108, 2, none⟩ = some (.int .i64 a0_2) := (blk_cell BK108.out 2).trans rfl
 have hcz37_3 : wc.cell? ⟨gb108, 3, none⟩ = some (.string a0_3) := (blk_cell BK108.out 3).trans rfl
 have hfz37_0 := blk_frozen BK108.out 0
 have hfz37_1 := blk_frozen BK108.out 1
 have hfz37_2 := blk_frozen BK108.out 2
 have hfz37_3 := blk_frozen BK108.out 3
 go_wp2
 go_meet
 case rel => exact ⟨_, (false), zcj_4, H', ⟨zcj_135⟩, ⟨zcj_43⟩, ⟨zcj_32⟩⟩
 }
 )
 case rest =>(
 clear HC34
 obtain ⟨kq, x64_33, rfl, HA, HJ33, BK108, HB⟩ := hcut
 cases kq with
 | zero => exact absurd HA.out (by simp [spec_DeedText.j3])
 | succ kj33 =>(
 have H := HA.out
 clear HA
 simp only [spec_DeedText.j3] at H
 by_cases c38 : x64_33 = true
 {
 subst c38
 rw [if_pos rfl] at H
 replace H := Option.bind_eq_some_iff.mp H
 obtain ⟨t112, A390, H⟩ := H
 try dsimp only at H
 have A39 := Aside0.mk A390
 clear A390
 by_cases c40 : 6 + t112.size ≤ 9223372036854775807
 {
 rw [if_pos c40] at H
 have c40b0 := eq_true c40
 have c40b1 : decide (6 + t112.size ≤ 9223372036854775807) = true := decide_eq_true c40
 try have c40b2 : (9223372036854775807 < 6 + t112.size) = False := eq_false (Nat.not_lt.2 c40)
 by_cases c41 : ((⟨#[97, 109, 101, 110, 100, 32]⟩ : ByteArray) ++ t112).size + 1 ≤ 9223372036854775807
 {
 rw [if_pos c41] at H
 have c41z : 6 + t112.size + 1 ≤ 9223372036854775807 := by{
 have h_ := c41
 simp only [ByteArray.size_append] at h_
 exact h_
 }
 have c41y : (9223372036854775807 < 6 + t112.size + 1) = False := eq_false (Nat.not_lt.2 c41z)
 have c41b0 := eq_true c41
 have c41b1 : decide (((⟨#[97, 109, 101, 110, 100, 32]⟩ : ByteArray) ++ t112).size + 1 ≤ 9223372036854775807) = true := decide_eq_true c41
 try have c41b2 : (9223372036854775807 < ((⟨#[97, 109, 101, 110, 100, 32]⟩ : ByteArray) ++ t112).size + 1) = False := eq_false (Nat.not_lt.2 c41)
 replace H := Option.bind_eq_some_iff.mp H
 obtain ⟨t113, A420, H⟩ := H
 try dsimp only at H
 have A42 := Aside0.mk A420
 clear A420
 by_cases c43 : (((⟨#[97, 109, 101, 110, 100, 32]⟩ : ByteArray) ++ t112) ++ (⟨#[32]⟩ : ByteArray)).size + t113.size ≤ 9223372036854775807
 {
 rw [if_pos c43] at H
 have c43z : 6 + t112.size + 1 + t113.size ≤ 9223372036854775807 := by{
 have h_ := c43
 simp only [ByteArray.size_append] at h_
 exact h_
 }
 have c43y : (9223372036854775807 < 6 + t112.size + 1 + t113.size) = False := eq_false (Nat.not_lt.2 c43z)
 have c43b0 := eq_true c43
 have c43b1 : decide ((((⟨#[97, 109, 101, 110, 100, 32]⟩ : ByteArray) ++ t112) ++ (⟨#[32]⟩ : ByteArray)).size + t113.size ≤ 9223372036854775807) = true := decide_eq_true c43
 try have c43b2 : (9223372036854775807 < (((⟨#[97, 109, 101, 110, 100, 32]⟩ : ByteArray) ++ t112) ++ (⟨#[32]⟩ : ByteArray)).size + t113.size) = False := eq_false (Nat.not_lt.2 c43)
 by_cases c44 : ((((⟨#[97, 109, 101, 110, 100, 32]⟩ : ByteArray) ++ t112) ++ (⟨#[32]⟩ : ByteArray)) ++ t113).size + 1 ≤ 9223372036854775807
 {
 rw [if_pos c44] at H
 have c44z : 6 + t112.size + 1 + t113.size + 1 ≤ 9223372036854775807 := by{
 have h_ := c44
 simp only [ByteArray.size_append] at h_
 exact h_
 }
 have c44y : (9223372036854775807 < 6 + t112.size + 1 + t113.size + 1) = False := eq_false (Nat.not_lt.2 c44z)
 have c44b0 := eq_true c44
 have c44b1 : decide (((((⟨#[97, 109, 101, 110, 100, 32]⟩ : ByteArray) ++ t112) ++ (⟨#[32]⟩ : ByteArray)) ++ t113).size + 1 ≤ 9223372036854775807) = true := decide_eq_true c44
 try have c44b2 : (9223372036854775807 < ((((⟨#[97, 109, 101, 110, 100, 32]⟩ : ByteArray) ++ t112) ++ (⟨#[32]⟩ : ByteArray)) ++ t113).size + 1) = False := eq_false (Nat.not_lt.2 c44)
 by_cases c45 : (((((⟨#[97, 109, 101, 110, 100, 32]⟩ : ByteArray) ++ t112) ++ (⟨#[32]⟩ : ByteArray)) ++ t113) ++ (⟨#[32]⟩ : ByteArray)).size + a0_3.size ≤ 9223372036854775807
 {
 rw [if_pos c45] at H
 have c45z : 6 + t112.size + 1 + t113.size + 1 + a0_3.size ≤ 9223372036854775807 := by{
 have h_ := c45
 simp only [ByteArray.size_append] at h_
 exact h_
 }
 have c45y : (9223372036854775807 < 6 + t112.size + 1 + t113.size + 1 + a0_3.size) = False := eq_false (Nat.not_lt.2 c45z)
 have c45b0 := eq_true c45
 have c45b1 : decide ((((((⟨#[97, 109, 101, 110, 100, 32]⟩ : ByteArray) ++ t112) ++ (⟨#[32]⟩ : ByteArray)) ++ t113) ++ (⟨#[32]⟩ : ByteArray)).size + a0_3.size ≤ 9223372036854775807) = true := decide_eq_true c45
 try have c45b2 : (9223372036854775807 < (((((⟨#[97, 109, 101, 110, 100, 32]⟩ : ByteArray) ++ t112) ++ (⟨#[32]⟩ : ByteArray)) ++ t113) ++ (⟨#[32]⟩ : ByteArray)).size + a0_3.size) = False := eq_false (Nat.not_lt.2 c45)
 obtain rfl := Option.some.inj H
 try go_wp2
 refine zcj_f21 ?_
 clear BK108
 clear HB
 intro BK108 HB
 refine start_ (n := 14) (S := fun w' => w'.cell? ⟨gb108, 0, none⟩ = some (.int .i64 a0_0) ∧ w'.cell? ⟨gb108, 1, none⟩ = some (.int .i64 a0_1) ∧ w'.cell? ⟨gb108, 2, none⟩ = some (.int .i64 a0_2) ∧ w'.cell? ⟨gb108, 3, none⟩ = some (.string a0_3)) (ds := []) #[false, false, false, false, false, false, false, false, false, false, false, false, false, false] (by kernel_rfl) rfl rfl ⟨(blk_cell BK108.out 0).trans rfl, (blk_cell BK108.out 1).trans rfl, (blk_cell BK108.out 2).trans rfl, (blk_cell BK108.out 3).trans rfl⟩ (fun hHeld => ?_); refine with_tabW spec_DeedText.tab13 spec_DeedText.bits13 (fun HT_ HW_ => ?_)
 generalize wc.drew = w46 at BK108 HB hHeld ⊢
 refine pure_ (i := 0) (N := some 71) (v := ?_) (a' := ?_) #[true, false, false, false, false, false, false, false, false, false, false, false, false, false] rfl rfl (any_of HT_.out (by kernel_rfl)) (fun _ _ _ h => h) (Or.inl ⟨by rfl, ?_⟩) ?_ ?_
 rotate_left
 {
 intro w'
 go_simp
 with_reducible rfl
 }
 rotate_left
 {exact zcj_1}
 refine pure_ (i := 5) (N := some 76) (v := ?_) (a' := ?_) #[true, false, false, false, false, true, false, false, false, false, false, false, false, false] rfl rfl (any_of HT_.out (by kernel_rfl)) (fun _ _ _ h => h) (Or.inl ⟨by rfl, ?_⟩) ?_ ?_
 rotate_left
 {
 intro w'
 go_simp
 with_reducible rfl
 }
 rotate_left
 {exact zcj_1}
 refine pure_ (i := 10) (N := some 81) (v := ?_) (a' := ?_) #[true, false, false, false, false, true, false, false, false, false, true, false, false, false] rfl rfl (any_of HT_.out (by kernel_rfl)) (fun _ _ _ h => h) (Or.inl ⟨by rfl, ?_⟩) ?_ ?_
 rotate_left
 {
 intro w'
 go_simp
 with_reducible rfl
 }
 rotate_left
 {exact zcj_1}
 refine take_ (i := 1) (N := some 72) (v := ?_) (a' := ?_) #[true, true, false, false, false, true, false, false, false, false, true, false, false, false] rfl rfl (take_ofW HT_.out HW_.out (by kernel_rfl)) (fun _ _ _ h => h) (Or.inl ⟨by rfl, ?_⟩) hHeld ?_ ?_
 rotate_left
 {
 rintro w' ⟨s0, s1, s2, s3⟩
 go_simp
 with_reducible rfl
 }
 rotate_left
 {exact zcj_1}
 refine take_ (i := 6) (N := some 77) (v := ?_) (a' := ?_) #[true, true, false, false, false, true, true, false, false, false, true, false, false, false] rfl rfl (take_ofW HT_.out HW_.out (by kernel_rfl)) (fun _ _ _ h => h) (Or.inl ⟨by rfl, ?_⟩) hHeld ?_ ?_
 rotate_left
 {
 rintro w' ⟨s0, s1, s2, s3⟩
 go_simp
 with_reducible rfl
 }
 rotate_left
 {exact zcj_1}
 refine take_ (i := 11) (N := some 82) (v := ?_) (a' := ?_) #[true, true, false, false, false, true, true, false, false, false, true, true, false, false] rfl rfl (take_ofW HT_.out HW_.out (by kernel_rfl)) (fun _ _ _ h => h) (Or.inl ⟨by rfl, ?_⟩) hHeld ?_ ?_
 rotate_left
 {
 rintro w' ⟨s0, s1, s2, s3⟩
 go_simp
 with_reducible rfl
 }
 rotate_left
 {exact zcj_1}
 refine one_ (i := 2) (N := some 73) #[true, true, true, false, false, true, true, false, false, false, true, true, false, false] rfl rfl (one_of HT_.out (by kernel_rfl)) (by decide) (fun K hK => ?_)
 refine goes_ Tryd.func31 (by kernel_rfl) rfl #[.int .i64 a0_1] (by rfl) rfl rfl zcj_3 ?_
 with_reducible refine (spec_l1Number.calls kj33 a0_1 t112 _ A39.out).mono ?_
 rintro e w47 ⟨rfl, hb⟩
 refine ⟨_, rfl, ?_⟩
 refine zcj_f4 ?_
 clear BK108
 clear HB
 intro BK108 HB
 (try clear hb)
 (try clear hb2)
 (try clear hk)
 (try clear hi)
 refine hK.out _ _ ⟨(blk_cell BK108.out 0).trans rfl, (blk_cell BK108.out 1).trans rfl, (blk_cell BK108.out 2).trans rfl, (blk_cell BK108.out 3).trans rfl⟩ (fun hHeld => ?_)
 clear hK K
 refine norm_ (a' := ?_) ?_ ?_
 rotate_left
 {exact zcj_136}
 refine pure_ (i := 3) (N := some 74) (v := ?_) (a' := ?_) #[true, true, true, true, false, true, true, false, false, false, true, true, false, false] rfl rfl (any_of HT_.out (by kernel_rfl)) (fun _ _ _ h => h) (Or.inl ⟨by rfl, ?_⟩) ?_ ?_
 rotate_left
 {
 intro w'
 go_simp
 with_reducible rfl
 }
 rotate_left
 {exact zcj_1}
 refine pure_ (i := 4) (N := some 75) (v := ?_) (a' := ?_) #[true, true, true, true, true, true, true, false, false, false, true, true, false, false] rfl rfl (any_of HT_.out (by kernel_rfl)) (fun _ _ _ h => h) (Or.inl ⟨by rfl, ?_⟩) ?_ ?_
 rotate_left
 {
 intro w'
 go_simp
 with_reducible rfl
 }
 rotate_left
 {exact zcj_1}
 refine one_ (i := 7) (N := some 78) #[true, true, true, true, true, true, true, true, false, false, true, true, false, false] rfl rfl (one_of HT_.out (by kernel_rfl)) (by decide) (fun K hK => ?_)
 refine goes_ Tryd.func31 (by kernel_rfl) rfl #[.int .i64 a0_2] (by rfl) rfl rfl zcj_3 ?_
 with_reducible refine (spec_l1Number.calls kj33 a0_2 t113 _ A42.out).mono ?_
 rintro e w48 ⟨rfl, hb⟩
 refine ⟨_, rfl, ?_⟩
 refine zcj_f4 ?_
 clear BK108
 clear HB
 intro BK108 HB
 (try clear hb)
 (try clear hb2)
 (try clear hk)
 (try clear hi)
 refine hK.out _ _ ⟨(blk_cell BK108.out 0).trans rfl, (blk_cell BK108.out 1).trans rfl, (blk_cell BK108.out 2).trans rfl, (blk_cell BK108.out 3).trans rfl⟩ (fun hHeld => ?_)
 clear hK K
 refine norm_ (a' := ?_) ?_ ?_
 rotate_left
 {exact zcj_106}
 refine pure_ (i := 8) (N := some 79) (v := ?_) (a' := ?_) #[true, true, true, true, true, true, true, true, true, false, true, true, false, false] rfl rfl (any_of HT_.out (by kernel_rfl)) (fun _ _ _ h => h) (Or.inl ⟨by rfl, ?_⟩) ?_ ?_
 rotate_left
 {
 intro w'
 go_simp
 with_reducible rfl
 }
 rotate_left
 {exact zcj_1}
 refine pure_ (i := 9) (N := some 80) (v := ?_) (a' := ?_) #[true, true, true, true, true, true, true, true, true, true, true, true, false, false] rfl rfl (any_of HT_.out (by kernel_rfl)) (fun _ _ _ h => h) (Or.inl ⟨by rfl, ?_⟩) ?_ ?_
 rotate_left
 {
 intro w'
 go_simp
 with_reducible rfl
 }
 rotate_left
 {exact zcj_1}
 refine pure_ (i := 12) (N := some 83) (v := ?_) (a' := ?_) #[true, true, true, true, true, true, true, true, true, true, true, true, true, false] rfl rfl (any_of HT_.out (by kernel_rfl)) (fun _ _ _ h => h) (Or.inl ⟨by rfl, ?_⟩) ?_ ?_
 rotate_left
 {
 intro w'
 go_simp
 with_reducible rfl
 }
 rotate_left
 {exact zcj_1}
 refine pure_ (i := 13) (N := some 2) (v := ?_) (a' := ?_) #[true, true, true, true, true, true, true, true, true, true, true, true, true, true] rfl rfl (any_of HT_.out (by kernel_rfl)) (fun _ _ _ h => h) (Or.inl ⟨by rfl, ?_⟩) ?_ ?_
 rotate_left
 {
 intro w'
 go_simp
 with_reducible rfl
 }
 rotate_left
 {exact zcj_1}
 refine done_ (done_of HT_.out (by kernel_rfl)) ?_
 try go_wp2
 go_ret
 exact ⟨zcj_13, zcj_32⟩
 }
 {
 rw [if_neg c45] at H
 exact absurd H (by simp)
 }
 }
 {
 rw [if_neg c44] at H
 exact absurd H (by simp)
 }
 }
 {
 rw [if_neg c43] at H
 exact absurd H (by simp)
 }
 }
 {
 rw [if_neg c41] at H
 exact absurd H (by simp)
 }
 }
 {
 rw [if_neg c40] at H
 exact absurd H (by simp)
 }
 }
 {
 replace c38 := Bool.eq_false_iff.mpr c38
 subst c38
 rw [if_neg (show ¬ (false = true) by decide)] at H
 by_cases c49 : (a0_0 == 3 && (a0_3.toList == ([] : List UInt8))) = true
 {
 rw [if_pos c49] at H
 have c49b0 : (a0_0 == 3 && (a0_3.toList == ([] : List UInt8))) = true := c49
 have c49be : (a0_0 == 3 && a0_3.toList.isEmpty) = true := by simpa using c49b0
 (try (have c49b1 : decide (a0_0 = 3 && (a0_3.toList == ([] : List UInt8))) = true := by simpa using c49))
 (try (have c49b2 : (a0_0 == 3 && (a0_3.toList == ([] : List UInt8))) = true := by simpa using c49))
 clear c49
 replace H := Option.bind_eq_some_iff.mp H
 obtain ⟨t114, A500, H⟩ := H
 try dsimp only at H
 have A50 := Aside0.mk A500
 clear A500
 by_cases c51 : 5 + t114.size ≤ 9223372036854775807
 {
 rw [if_pos c51] at H
 have c51b0 := eq_true c51
 have c51b1 : decide (5 + t114.size ≤ 9223372036854775807) = true := decide_eq_true c51
 try have c51b2 : (9223372036854775807 < 5 + t114.size) = False := eq_false (Nat.not_lt.2 c51)
 by_cases c52 : ((⟨#[100, 114, 111, 112, 32]⟩ : ByteArray) ++ t114).size + 1 ≤ 9223372036854775807
 {
 rw [if_pos c52] at H
 have c52z : 5 + t114.size + 1 ≤ 9223372036854775807 := by{
 have h_ := c52
 simp only [ByteArray.size_append] at h_
 exact h_
 }
 have c52y : (9223372036854775807 < 5 + t114.size + 1) = False := eq_false (Nat.not_lt.2 c52z)
 have c52b0 := eq_true c52
 have c52b1 : decide (((⟨#[100, 114, 111, 112, 32]⟩ : ByteArray) ++ t114).size + 1 ≤ 9223372036854775807) = true := decide_eq_true c52
 try have c52b2 : (9223372036854775807 < ((⟨#[100, 114, 111, 112, 32]⟩ : ByteArray) ++ t114).size + 1) = False := eq_false (Nat.not_lt.2 c52)
 replace H := Option.bind_eq_some_iff.mp H
 obtain ⟨t115, A530, H⟩ := H
 try dsimp only at H
 have A53 := Aside0.mk A530
 clear A530
 by_cases c54 : (((⟨#[100, 114, 111, 112, 32]⟩ : ByteArray) ++ t114) ++ (⟨#[32]⟩ : ByteArray)).size + t115.size ≤ 9223372036854775807
 {
 rw [if_pos c54] at H
 have c54z : 5 + t114.size + 1 + t115.size ≤ 9223372036854775807 := by{
 have h_ := c54
 simp only [ByteArray.size_append] at h_
 exact h_
 }
 have c54y : (9223372036854775807 < 5 + t114.size + 1 + t115.size) = False := eq_false (Nat.not_lt.2 c54z)
 have c54b0 := eq_true c54
 have c54b1 : decide ((((⟨#[100, 114, 111, 112, 32]⟩ : ByteArray) ++ t114) ++ (⟨#[32]⟩ : ByteArray)).size + t115.size ≤ 9223372036854775807) = true := decide_eq_true c54
 try have c54b2 : (9223372036854775807 < (((⟨#[100, 114, 111, 112, 32]⟩ : ByteArray) ++ t114) ++ (⟨#[32]⟩ : ByteArray)).size + t115.size) = False := eq_false (Nat.not_lt.2 c54)
 obtain rfl := Option.some.inj H
 have hcz55_0 : wc.cell? ⟨gb108, 0, none⟩ = some (.int .i64 a0_0) := (blk_cell BK108.out 0).trans rfl
 have hcz55_1 : wc.cell? ⟨gb108, 1, none⟩ = some (.int .i64 a0_1) := (blk_cell BK108.out 1).trans rfl
 have hcz55_2 : wc.cell? ⟨gb108, 2, none⟩ = some (.int .i64 a0_2) := (blk_cell BK108.out 2).trans rfl
 have hcz55_3 : wc.cell? ⟨gb108, 3, none⟩ = some (.string a0_3) := (blk_cell BK108.out 3).trans rfl
 have hfz55_0 := blk_frozen BK108.out 0
 have hfz55_1 := blk_frozen BK108.out 1
 have hfz55_2 := blk_frozen BK108.out 2
 have hfz55_3 := blk_frozen BK108.out 3
 try go_wp2
 refine zcj_f21 ?_
 clear BK108
 clear HB
 intro BK108 HB
 refine start_ (n := 10) (S := fun w' => w'.cell? ⟨gb108, 0, none⟩ = some (.int .i64 a0_0) ∧ w'.cell? ⟨gb108, 1, none⟩ = some (.int .i64 a0_1) ∧ w'.cell? ⟨gb108, 2, none⟩ = some (.int .i64 a0_2) ∧ w'.cell? ⟨gb108, 3, none⟩ = some (.string a0_3)) (ds := []) #[false, false, false, false, false, false, false, false, false, false] (by kernel_rfl) rfl rfl ⟨(blk_cell BK108.out 0).trans rfl, (blk_cell BK108.out 1).trans rfl, (blk_cell BK108.out 2).trans rfl, (blk_cell BK108.out 3).trans rfl⟩ (fun hHeld => ?_); refine with_tabW spec_DeedText.tab15 spec_DeedText.bits15 (fun HT_ HW_ => ?_)
 generalize wc.drew = w56 at BK108 HB hHeld ⊢
 refine pure_ (i := 0) (N := some 92) (v := ?_) (a' := ?_) #[true, false, false, false, false, false, false, false, false, false] rfl rfl (any_of HT_.out (by kernel_rfl)) (fun _ _ _ h => h) (Or.inl ⟨by rfl, ?_⟩) ?_ ?_
 rotate_left
 {
 intro w'
 go_simp
 with_reducible rfl
 }
 rotate_left
 {exact zcj_1}
 refine pure_ (i := 5) (N := some 97) (v := ?_) (a' := ?_) #[true, false, false, false, false, true, false, false, false, false] rfl rfl (any_of HT_.out (by kernel_rfl)) (fun _ _ _ h => h) (Or.inl ⟨by rfl, ?_⟩) ?_ ?_
 rotate_left
 {
 intro w'
 go_simp
 with_reducible rfl
 }
 rotate_left
 {exact zcj_1}
 refine take_ (i := 1) (N := some 93) (v := ?_) (a' := ?_) #[true, true, false, false, false, true, false, false, false, false] rfl rfl (take_ofW HT_.out HW_.out (by kernel_rfl)) (fun _ _ _ h => h) (Or.inl ⟨by rfl, ?_⟩) hHeld ?_ ?_
 rotate_left
 {
 rintro w' ⟨s0, s1, s2, s3⟩
 go_simp
 with_reducible rfl
 }
 rotate_left
 {exact zcj_1}
 refine take_ (i := 6) (N := some 98) (v := ?_) (a' := ?_) #[true, true, false, false, false, true, true, false, false, false] rfl rfl (take_ofW HT_.out HW_.out (by kernel_rfl)) (fun _ _ _ h => h) (Or.inl ⟨by rfl, ?_⟩) hHeld ?_ ?_
 rotate_left
 {
 rintro w' ⟨s0, s1, s2, s3⟩
 go_simp
 with_reducible rfl
 }
 rotate_left
 {exact zcj_1}
 refine one_ (i := 2) (N := some 94) #[true, true, true, false, false, true, true, false, false, false] rfl rfl (one_of HT_.out (by kernel_rfl)) (by decide) (fun K hK => ?_)
 refine goes_ Tryd.func31 (by kernel_rfl) rfl #[.int .i64 a0_1] (by rfl) rfl rfl zcj_3 ?_
 with_reducible refine (spec_l1Number.calls kj33 a0_1 t114 _ A50.out).mono ?_
 rintro e w57 ⟨rfl, hb⟩
 refine ⟨_, rfl, ?_⟩
 refine zcj_f4 ?_
 clear BK108
 clear HB
 intro BK108 HB
 (try clear hb)
 (try clear hb2)
 (try clear hk)
 (try clear hi)
 refine hK.out _ _ ⟨(blk_cell BK108.out 0).trans rfl, (blk_cell BK108.out 1).trans rfl, (blk_cell BK108.out 2).trans rfl, (blk_cell BK108.out 3).trans rfl⟩ (fun hHeld => ?_)
 clear hK K
 refine norm_ (a' := ?_) ?_ ?_
 rotate_left
 {show Act.put _ (some 94) _ = _; simp only [Act.put, List.setIfInBounds_toArray, List.set_cons_zero, List.set_cons_succ, i64_w, i32_w]; rfl}
 refine pure_ (i := 3) (N := some 95) (v := ?_) (a' := ?_) #[true, true, true, true, false, true, true, false, false, false] rfl rfl (any_of HT_.out (by kernel_rfl)) (fun _ _ _ h => h) (Or.inl ⟨by rfl, ?_⟩) ?_ ?_
 rotate_left
 {
 intro w'
 go_simp
 with_reducible rfl
 }
 rotate_left
 {exact zcj_1}
 refine pure_ (i := 4) (N := some 96) (v := ?_) (a' := ?_) #[true, true, true, true, true, true, true, false, false, false] rfl rfl (any_of HT_.out (by kernel_rfl)) (fun _ _ _ h => h) (Or.inl ⟨by rfl, ?_⟩) ?_ ?_
 rotate_left
 {
 intro w'
 go_simp
 with_reducible rfl
 }
 rotate_left
 {exact zcj_1}
 refine one_ (i := 7) (N := some 99) #[true, true, true, true, true, true, true, true, false, false] rfl rfl (one_of HT_.out (by kernel_rfl)) (by decide) (fun K hK => ?_)
 refine goes_ Tryd.func31 (by kernel_rfl) rfl #[.int .i64 a0_2] (by rfl) rfl rfl zcj_3 ?_
 with_reducible refine (spec_l1Number.calls kj33 a0_2 t115 _ A53.out).mono ?_
 rintro e w58 ⟨rfl, hb⟩
 refine ⟨_, rfl, ?_⟩
 refine zcj_f4 ?_
 clear BK108
 clear HB
 intro BK108 HB
 (try clear hb)
 (try clear hb2)
 (try clear hk)
 (try clear hi)
 refine hK.out _ _ ⟨(blk_cell BK108.out 0).trans rfl, (blk_cell BK108.out 1).trans rfl, (blk_cell BK108.out 2).trans rfl, (blk_cell BK108.out 3).trans rfl⟩ (fun hHeld => ?_)
 clear hK K
 refine norm_ (a' := ?_) ?_ ?_
 rotate_left
 {show Act.put _ (some 99) _ = _; simp only [Act.put, List.setIfInBounds_toArray, List.set_cons_zero, List.set_cons_succ, i64_w, i32_w]; rfl}
 refine pure_ (i := 8) (N := some 100) (v := ?_) (a' := ?_) #[true, true, true, true, true, true, true, true, true, false] rfl rfl (any_of HT_.out (by kernel_rfl)) (fun _ _ _ h => h) (Or.inl ⟨by rfl, ?_⟩) ?_ ?_
 rotate_left
 {
 intro w'
 go_simp
 with_reducible rfl
 }
 rotate_left
 {exact zcj_1}
 refine pure_ (i := 9) (N := some 2) (v := ?_) (a' := ?_) #[true, true, true, true, true, true, true, true, true, true] rfl rfl (any_of HT_.out (by kernel_rfl)) (fun _ _ _ h => h) (Or.inl ⟨by rfl, ?_⟩) ?_ ?_
 rotate_left
 {
 intro w'
 go_simp
 with_reducible rfl
 }
 rotate_left
 {exact zcj_1}
 refine done_ (done_of HT_.out (by kernel_rfl)) ?_
 try go_wp2
 go_ret
 exact ⟨zcj_13, zcj_32⟩
 }
 {
 rw [if_neg c54] at H
 exact absurd H (by simp)
 }
 }
 {
 rw [if_neg c52] at H
 exact absurd H (by simp)
 }
 }
 {
 rw [if_neg c51] at H
 exact absurd H (by simp)
 }
 }
 {
 rw [if_neg c49] at H
 have c49b0 : (a0_0 == 3 && (a0_3.toList == ([] : List UInt8))) = false := by simpa using c49
 have c49be : (a0_0 == 3 && a0_3.toList.isEmpty) = false := by simpa using c49b0
 (try (have c49b1 : decide (a0_0 = 3 && (a0_3.toList == ([] : List UInt8))) = false := by simpa using c49))
 (try (have c49b2 : (a0_0 == 3 && (a0_3.toList == ([] : List UInt8))) = false := by simpa using c49))
 (try (have c49b3 : ¬ (a0_0 = 3 && (a0_3.toList == ([] : List UInt8))) := by simpa using c49))
 clear c49
 by_cases c59 : (a0_0 == 4 && (a0_1 == 0 && (a0_2 == 0 && (a0_3.toList == ([] : List UInt8))))) = true
 {
 rw [if_pos c59] at H
 have c59b0 : (a0_0 == 4 && (a0_1 == 0 && (a0_2 == 0 && (a0_3.toList == ([] : List UInt8))))) = true := c59
 have c59be : (a0_0 == 4 && (a0_1 == 0 && (a0_2 == 0 && a0_3.toList.isEmpty))) = true := by simpa using c59b0
 (try (have c59b1 : decide (a0_0 = 4 && (a0_1 == 0 && (a0_2 == 0 && (a0_3.toList == ([] : List UInt8))))) = true := by simpa using c59))
 (try (have c59b2 : (a0_0 == 4 && (a0_1 == 0 && (a0_2 == 0 && (a0_3.toList == ([] : List UInt8))))) = true := by simpa using c59))
 clear c59
 obtain rfl := Option.some.inj H
 have hcz60_0 : wc.cell? ⟨gb108, 0, none⟩ = some (.int .i64 a0_0) := (blk_cell BK108.out 0).trans rfl
 have hcz60_1 : wc.cell? ⟨gb108, 1, none⟩ = some (.int .i64 a0_1) := (blk_cell BK108.out 1).trans rfl
 have hcz60_2 : wc.cell? ⟨gb108, 2, none⟩ = some (.int .i64 a0_2) := (blk_cell BK108.out 2).trans rfl
 have hcz60_3 : wc.cell? ⟨gb108, 3, none⟩ = some (.string a0_3) := (blk_cell BK108.out 3).trans rfl
 have hfz60_0 := blk_frozen BK108.out 0
 have hfz60_1 := blk_frozen BK108.out 1
 have hfz60_2 := blk_frozen BK108.out 2
 have hfz60_3 := blk_frozen BK108.out 3
 go_wp2
 go_ret
 exact ⟨zcj_13, zcj_32⟩
 }
 {
 rw [if_neg c59] at H
 have c59b0 : (a0_0 == 4 && (a0_1 == 0 && (a0_2 == 0 && (a0_3.toList == ([] : List UInt8))))) = false := by simpa using c59
 have c59be : (a0_0 == 4 && (a0_1 == 0 && (a0_2 == 0 && a0_3.toList.isEmpty))) = false := by simpa using c59b0
 (try (have c59b1 : decide (a0_0 = 4 && (a0_1 == 0 && (a0_2 == 0 && (a0_3.toList == ([] : List UInt8))))) = false := by simpa using c59))
 (try (have c59b2 : (a0_0 == 4 && (a0_1 == 0 && (a0_2 == 0 && (a0_3.toList == ([] : List UInt8))))) = false := by simpa using c59))
 (try (have c59b3 : ¬ (a0_0 = 4 && (a0_1 == 0 && (a0_2 == 0 && (a0_3.toList == ([] : List UInt8))))) := by simpa using c59))
 clear c59
 obtain rfl := Option.some.inj H
 have hcz61_0 : wc.cell? ⟨gb108, 0, none⟩ = some (.int .i64 a0_0) := (blk_cell BK108.out 0).trans rfl
 have hcz61_1 : wc.cell? ⟨gb108, 1, none⟩ = some (.int .i64 a0_1) := (blk_cell BK108.out 1).trans rfl
 have hcz61_2 : wc.cell? ⟨gb108, 2, none⟩ = some (.int .i64 a0_2) := (blk_cell BK108.out 2).trans rfl
 have hcz61_3 : wc.cell? ⟨gb108, 3, none⟩ = some (.string a0_3) := (blk_cell BK108.out 3).trans rfl
 have hfz61_0 := blk_frozen BK108.out 0
 have hfz61_1 := blk_frozen BK108.out 1
 have hfz61_2 := blk_frozen BK108.out 2
 have hfz61_3 := blk_frozen BK108.out 3
 go_wp2
 go_ret
 exact ⟨zcj_13, zcj_32⟩
 }
 }
 }
 )
 )
 }
 )
 )
 }
 }
 )
 )
 }
 )
 )
end Go.Proofs.YtnkfbappnpnaoaaDoor.Q
