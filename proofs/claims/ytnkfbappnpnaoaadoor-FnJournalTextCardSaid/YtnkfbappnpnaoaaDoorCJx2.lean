/- A part of this claim's proof: functions of the program as plain functions, with the proof that the code comes to their answers, and facts about them. Condition: none of its own. -/
import Derived.Test.YtnkfbappnpnaoaaDoorCJx1
import Derived.Test.YtnkfbappnpnaoaaDoorCJz
namespace Go.Proofs.YtnkfbappnpnaoaaDoor.Q
open Go.RowKit Go.Proofs.YtnkfbappnpnaoaaDoorW.PrintWords Go.Proofs.YtnkfbappnpnaoaaDoorW.PrintLast Go.Proofs.YtnkfbappnpnaoaaDoorW.PrintMore
attribute [local go_sem] max2_int min2_int max_two min_two max_three min_three max_four min_four   -- for this text's walks alone
set_option linter.unusedVariables false
set_option linter.unusedSimpArgs false
attribute [local go_sem high] eqA30
mutual
def impl_deedText.j0 : Nat → Bool → Int → Int → Int → ByteArray → Option (ByteArray)
  | 0, _, _, _, _, _ => none
  | k + 1, x21, x480000, x480001, x480002, x480003 => if x21 = true then (some (⟨#[]⟩ : ByteArray)) else (if x480003.toList = ([] : List UInt8) then (impl_deedText.j1 k false x480000 x480001 x480002 x480003) else ((strings_ContainsAny.f x480003 (⟨#[32, 10]⟩ : ByteArray)).bind fun t480 => (impl_deedText.j1 k (!t480) x480000 x480001 x480002 x480003)))
def impl_deedText.j1 : Nat → Bool → Int → Int → Int → ByteArray → Option (ByteArray)
  | 0, _, _, _, _, _ => none
  | k + 1, x3, x480000, x480001, x480002, x480003 => if x480000 = 0 then (if x480002 = 0 then (impl_deedText.j2 k x3 (x480003.toList == ([] : List UInt8)) x480000 x480001 x480002 x480003) else (impl_deedText.j2 k x3 false x480000 x480001 x480002 x480003)) else (impl_deedText.j2 k x3 false x480000 x480001 x480002 x480003)
def impl_deedText.j2 : Nat → Bool → Bool → Int → Int → Int → ByteArray → Option (ByteArray)
  | 0, _, _, _, _, _, _ => none
  | k + 1, x3, x31, x480000, x480001, x480002, x480003 => if x31 = true then ((strconv_Itoa.f x480001).bind fun t481 => (if 5 + t481.size ≤ 9223372036854775807 then (some ((⟨#[98, 111, 100, 121, 32]⟩ : ByteArray) ++ t481)) else (none))) else (if x480000 = 1 then (if x480001 = 0 then (if x480002 = 0 then (impl_deedText.j3 k x3 x3 x480000 x480001 x480002 x480003) else (impl_deedText.j3 k x3 false x480000 x480001 x480002 x480003)) else (impl_deedText.j3 k x3 false x480000 x480001 x480002 x480003)) else (impl_deedText.j3 k x3 false x480000 x480001 x480002 x480003))
def impl_deedText.j3 : Nat → Bool → Bool → Int → Int → Int → ByteArray → Option (ByteArray)
  | 0, _, _, _, _, _, _ => none
  | k + 1, x3, x49, x480000, x480001, x480002, x480003 => if x49 = true then (if 5 + x480003.size ≤ 9223372036854775807 then (some ((⟨#[114, 117, 108, 101, 32]⟩ : ByteArray) ++ x480003)) else (none)) else (if x480000 = 2 then (impl_deedText.j4 k x3 x480000 x480001 x480002 x480003) else (impl_deedText.j4 k false x480000 x480001 x480002 x480003))
def impl_deedText.j4 : Nat → Bool → Int → Int → Int → ByteArray → Option (ByteArray)
  | 0, _, _, _, _, _ => none
  | k + 1, x69, x480000, x480001, x480002, x480003 => if x69 = true then ((strconv_Itoa.f x480001).bind fun t482 => (if 6 + t482.size ≤ 9223372036854775807 then (if ((⟨#[97, 109, 101, 110, 100, 32]⟩ : ByteArray) ++ t482).size + 1 ≤ 9223372036854775807 then ((strconv_Itoa.f x480002).bind fun t483 => (if (((⟨#[97, 109, 101, 110, 100, 32]⟩ : ByteArray) ++ t482) ++ (⟨#[32]⟩ : ByteArray)).size + t483.size ≤ 9223372036854775807 then (if ((((⟨#[97, 109, 101, 110, 100, 32]⟩ : ByteArray) ++ t482) ++ (⟨#[32]⟩ : ByteArray)) ++ t483).size + 1 ≤ 9223372036854775807 then (if (((((⟨#[97, 109, 101, 110, 100, 32]⟩ : ByteArray) ++ t482) ++ (⟨#[32]⟩ : ByteArray)) ++ t483) ++ (⟨#[32]⟩ : ByteArray)).size + x480003.size ≤ 9223372036854775807 then (some ((((((⟨#[97, 109, 101, 110, 100, 32]⟩ : ByteArray) ++ t482) ++ (⟨#[32]⟩ : ByteArray)) ++ t483) ++ (⟨#[32]⟩ : ByteArray)) ++ x480003)) else (none)) else (none)) else (none))) else (none)) else (none))) else (if x480000 = 3 then (impl_deedText.j5 k (x480003.toList == ([] : List UInt8)) x480000 x480001 x480002 x480003) else (impl_deedText.j5 k false x480000 x480001 x480002 x480003))
def impl_deedText.j5 : Nat → Bool → Int → Int → Int → ByteArray → Option (ByteArray)
  | 0, _, _, _, _, _ => none
  | k + 1, x89, x480000, x480001, x480002, x480003 => if x89 = true then ((strconv_Itoa.f x480001).bind fun t484 => (if 5 + t484.size ≤ 9223372036854775807 then (if ((⟨#[100, 114, 111, 112, 32]⟩ : ByteArray) ++ t484).size + 1 ≤ 9223372036854775807 then ((strconv_Itoa.f x480002).bind fun t485 => (if (((⟨#[100, 114, 111, 112, 32]⟩ : ByteArray) ++ t484) ++ (⟨#[32]⟩ : ByteArray)).size + t485.size ≤ 9223372036854775807 then (some ((((⟨#[100, 114, 111, 112, 32]⟩ : ByteArray) ++ t484) ++ (⟨#[32]⟩ : ByteArray)) ++ t485)) else (none))) else (none)) else (none))) else (if (x480000 == 4 && (x480001 == 0 && (x480002 == 0 && (x480003.toList == ([] : List UInt8))))) = true then (some (⟨#[98, 97, 99, 107]⟩ : ByteArray)) else (some (⟨#[]⟩ : ByteArray)))
end
def impl_deedText.f (k : Nat) (a0_0 : Int) (a0_1 : Int) (a0_2 : Int) (a0_3 : ByteArray) : Option (ByteArray) := if a0_1 < 0 then (impl_deedText.j0 k true a0_0 a0_1 a0_2 a0_3) else (if a0_1 > 99 then (impl_deedText.j0 k true a0_0 a0_1 a0_2 a0_3) else (if a0_2 < 0 then (impl_deedText.j0 k true a0_0 a0_1 a0_2 a0_3) else (impl_deedText.j0 k (decide (a0_2 > 99)) a0_0 a0_1 a0_2 a0_3)))
def impl_deedText.T9 : Bool × List (List Nat × List Nat) := (true, [([], []), ([0], [0]), ([1], [1]), ([2], [2]), ([3], [3]), ([], []), ([5], [5]), ([6, 2], [6]), ([4, 7], [4, 7]), ([8], [8]), ([], []), ([10], [10]), ([9, 11], [9, 11]), ([12, 7, 0, 1, 2, 3, 4, 5, 6, 7, 8, 9, 10, 11, 12], [12])])
def impl_deedText.B9 : List Nat := [0, 1, 3, 7, 15, 0, 32, 103, 255, 511, 0, 1024, 4095, 8191]
theorem impl_deedText.tab9 : rtab .any (opsOf Tryd.f29 9) = impl_deedText.T9 := by kernel_rfl
theorem impl_deedText.bits9 : waitsOk impl_deedText.T9.2 impl_deedText.B9 = true := by kernel_rfl
def impl_deedText.T11 : Bool × List (List Nat × List Nat) := (true, [([], []), ([0], [0]), ([1], [1]), ([2], [2]), ([3], [3]), ([], []), ([5], [5]), ([6, 2], [6]), ([4, 7], [4, 7]), ([8, 7, 0, 1, 2, 3, 4, 5, 6, 7, 8], [8])])
def impl_deedText.B11 : List Nat := [0, 1, 3, 7, 15, 0, 32, 103, 255, 511]
theorem impl_deedText.tab11 : rtab .any (opsOf Tryd.f29 11) = impl_deedText.T11 := by kernel_rfl
theorem impl_deedText.bits11 : waitsOk impl_deedText.T11.2 impl_deedText.B11 = true := by kernel_rfl
set_option maxHeartbeats 8000000 in
set_option maxRecDepth 100000 in
theorem impl_deedText.calls (k : Nat) (a0_0 : Int) (a0_1 : Int) (a0_2 : Int) (a0_3 : ByteArray) (r : ByteArray) (w : World) (h : impl_deedText.f k a0_0 a0_1 a0_2 a0_3 = some r) :
    Calls Tryd.prog 29 #[.agg #[.int .i64 a0_0, .int .i64 a0_1, .int .i64 a0_2, .string a0_3]] w fun e w' => e = .returned (.string r) ∧ Below w.heap.size w w' := by
 have hu30 := Tryd.underlying30
 have HB := Aside0.mk (Below.refl w.heap.size w)
 have H : (if a0_1 < 0 then (impl_deedText.j0 k true a0_0 a0_1 a0_2 a0_3) else (if a0_1 > 99 then (impl_deedText.j0 k true a0_0 a0_1 a0_2 a0_3) else (if a0_2 < 0 then (impl_deedText.j0 k true a0_0 a0_1 a0_2 a0_3) else (impl_deedText.j0 k (decide (a0_2 > 99)) a0_0 a0_1 a0_2 a0_3)))) = some r := h
 clear h
 have HC2 := Aside0.mk H
 clear H
 go_enter Tryd.func29, Tryd.ntmps29
 go_upto_region 1 with (first | ((with_reducible refine gate_dst (N := 1) rfl ?_); refine box_event ?hg (N := 1) ?hd (cs := #[.int .i64 a0_0, .int .i64 a0_1, .int .i64 a0_2, .string a0_3]) (t := 30) ?hr ?_; (case hd => rfl); (case hg => rfl); (case hr => exact zcj_12); intro gb479 hg w3 hbox hb; have n0_ := Aside0.mk (below_step zcj_5 hb); have n1_ := Aside0.mk (hbox); have n2_ := Aside0.mk ((zcj_36 : w.heap.size ≤ gb479)); have n3_ := Aside0.mk ((zcj_36 : w.heap.size ≤ gb479)); clear HB; have HB := n0_; have BK479 := n1_; have GW479 := n2_; have GE479 := n3_; clear n0_ n1_ n2_ n3_; clear hb hbox hg))
 (try simp only [Act.put, List.setIfInBounds_toArray, List.set_cons_zero, List.set_cons_succ])
 go_cut [21] (fun v21 wc => ∃ (kq : Nat) (x21_1 : Bool), v21 = .bool x21_1 ∧ Aside0 (impl_deedText.j0 kq x21_1 a0_0 a0_1 a0_2 a0_3 = some r) ∧ Aside0 (kq ≤ k) ∧ Aside0 (wc.heap[gb479]? = some (.cells #[.int .i64 a0_0, .int .i64 a0_1, .int .i64 a0_2, .string a0_3] 30 (0, 0))) ∧ Aside0 (Below w.heap.size w wc))
 case first =>(
 have H := HC2.out
 clear HC2
 by_cases c4 : a0_1 < 0
 {
 rw [if_pos c4] at H
 have c4b0 : decide (a0_1 < 0) = true := decide_eq_true c4
 clear c4
 (first | rw [c4b0] | (simp only [i64_w, i32_w]; rw [c4b0]) | skip)
 have H' := Aside0.mk H
 clear H
 have hcz5_0 : w3.cell? ⟨gb479, 0, none⟩ = some (.int .i64 a0_0) := (blk_cell BK479.out 0).trans rfl
 have hcz5_1 : w3.cell? ⟨gb479, 1, none⟩ = some (.int .i64 a0_1) := (blk_cell BK479.out 1).trans rfl
 have hcz5_2 : w3.cell? ⟨gb479, 2, none⟩ = some (.int .i64 a0_2) := (blk_cell BK479.out 2).trans rfl
 have hcz5_3 : w3.cell? ⟨gb479, 3, none⟩ = some (.string a0_3) := (blk_cell BK479.out 3).trans rfl
 have hfz5_0 := blk_frozen BK479.out 0
 have hfz5_1 := blk_frozen BK479.out 1
 have hfz5_2 := blk_frozen BK479.out 2
 have hfz5_3 := blk_frozen BK479.out 3
 go_wp2
 go_meet
 case rel => exact ⟨_, (true), zcj_4, H', ⟨zcj_38⟩, ⟨zcj_31⟩, ⟨zcj_22⟩⟩
 }
 {
 rw [if_neg c4] at H
 have c4b0 : decide (a0_1 < 0) = false := decide_eq_false c4
 clear c4
 (first | rw [c4b0] | (simp only [i64_w, i32_w]; rw [c4b0]) | skip)
 by_cases c6 : a0_1 > 99
 {
 rw [if_pos c6] at H
 have c6b0 : decide (99 < a0_1) = true := decide_eq_true c6
 clear c6
 have H' := Aside0.mk H
 clear H
 have hcz7_0 : w3.cell? ⟨gb479, 0, none⟩ = some (.int .i64 a0_0) := (blk_cell BK479.out 0).trans rfl
 have hcz7_1 : w3.cell? ⟨gb479, 1, none⟩ = some (.int .i64 a0_1) := (blk_cell BK479.out 1).trans rfl
 have hcz7_2 : w3.cell? ⟨gb479, 2, none⟩ = some (.int .i64 a0_2) := (blk_cell BK479.out 2).trans rfl
 have hcz7_3 : w3.cell? ⟨gb479, 3, none⟩ = some (.string a0_3) := (blk_cell BK479.out 3).trans rfl
 have hfz7_0 := blk_frozen BK479.out 0
 have hfz7_1 := blk_frozen BK479.out 1
 have hfz7_2 := blk_frozen BK479.out 2
 have hfz7_3 := blk_frozen BK479.out 3
 go_wp2
 go_meet
 case rel => exact ⟨_, (true), zcj_4, H', ⟨zcj_38⟩, ⟨zcj_31⟩, ⟨zcj_22⟩⟩
 }
 {
 rw [if_neg c6] at H
 have c6b0 : decide (99 < a0_1) = false := decide_eq_false c6
 clear c6
 by_cases c8 : a0_2 < 0
 {
 rw [if_pos c8] at H
 have c8b0 : decide (a0_2 < 0) = true := decide_eq_true c8
 clear c8
 have H' := Aside0.mk H
 clear H
 have hcz9_0 : w3.cell? ⟨gb479, 0, none⟩ = some (.int .i64 a0_0) := (blk_cell BK479.out 0).trans rfl
 have hcz9_1 : w3.cell? ⟨gb479, 1, none⟩ = some (.int .i64 a0_1) := (blk_cell BK479.out 1).trans rfl
 have hcz9_2 : w3.cell? ⟨gb479, 2, none⟩ = some (.int .i64 a0_2) := (blk_cell BK479.out 2).trans rfl
 have hcz9_3 : w3.cell? ⟨gb479, 3, none⟩ = some (.string a0_3) := (blk_cell BK479.out 3).trans rfl
 have hfz9_0 := blk_frozen BK479.out 0
 have hfz9_1 := blk_frozen BK479.out 1
 have hfz9_2 := blk_frozen BK479.out 2
 have hfz9_3 := blk_frozen BK479.out 3
 go_wp2
 go_meet
 case rel => exact ⟨_, (true), zcj_4, H', ⟨zcj_38⟩, ⟨zcj_31⟩, ⟨zcj_22⟩⟩
 }
 {
 rw [if_neg c8] at H
 have c8b0 : decide (a0_2 < 0) = false := decide_eq_false c8
 clear c8
 have H' := Aside0.mk H
 clear H
 have hcz10_0 : w3.cell? ⟨gb479, 0, none⟩ = some (.int .i64 a0_0) := (blk_cell BK479.out 0).trans rfl
 have hcz10_1 : w3.cell? ⟨gb479, 1, none⟩ = some (.int .i64 a0_1) := (blk_cell BK479.out 1).trans rfl
 have hcz10_2 : w3.cell? ⟨gb479, 2, none⟩ = some (.int .i64 a0_2) := (blk_cell BK479.out 2).trans rfl
 have hcz10_3 : w3.cell? ⟨gb479, 3, none⟩ = some (.string a0_3) := (blk_cell BK479.out 3).trans rfl
 have hfz10_0 := blk_frozen BK479.out 0
 have hfz10_1 := blk_frozen BK479.out 1
 have hfz10_2 := blk_frozen BK479.out 2
 have hfz10_3 := blk_frozen BK479.out 3
 go_wp2
 go_meet
 case rel => exact ⟨_, (decide (a0_2 > 99)), zcj_4, H', ⟨zcj_38⟩, ⟨zcj_31⟩, ⟨zcj_22⟩⟩
 }
 }
 }
 )
 case rest =>(
 clear HC2
 obtain ⟨kq, x21_1, rfl, HA, HJ1, BK479, HB⟩ := hcut
 cases kq with
 | zero => exact absurd HA.out (by simp [impl_deedText.j0])
 | succ kj1 =>(
 have H := HA.out
 clear HA
 simp only [impl_deedText.j0] at H
 by_cases c11 : x21_1 = true
 {
 subst c11
 rw [if_pos rfl] at H
 obtain rfl := Option.some.inj H
 go_wp2
 go_ret
 exact ⟨zcj_13, zcj_22⟩
 }
 {
 replace c11 := Bool.eq_false_iff.mpr c11
 subst c11
 rw [if_neg (show ¬ (false = true) by decide)] at H
 have HC12 := Aside0.mk H
 clear H
 go_upto_region 3 with (fail)
 go_cut [3] (fun v3 wc => ∃ (kq : Nat) (x3_11 : Bool), v3 = .bool x3_11 ∧ Aside0 (impl_deedText.j1 kq x3_11 a0_0 a0_1 a0_2 a0_3 = some r) ∧ Aside0 (kq ≤ kj1) ∧ Aside0 (wc.heap[gb479]? = some (.cells #[.int .i64 a0_0, .int .i64 a0_1, .int .i64 a0_2, .string a0_3] 30 (0, 0))) ∧ Aside0 (Below w.heap.size w wc))
 case first =>(
 have H := HC12.out
 clear HC12
 by_cases c13 : a0_3.toList = ([] : List UInt8)
 {
 rw [if_pos c13] at H
 have c13b0 : (a0_3.toList == ([] : List UInt8)) = true := beq_iff_eq.mpr c13
 have c13b1 : (a0_3.toList != ([] : List UInt8)) = false := bne_eq_false_iff_eq.mpr c13
 clear c13
 (first | rw [c13b0] | (simp only [i64_w, i32_w]; rw [c13b0]) | skip)
 have H' := Aside0.mk H
 clear H
 have hcz14_0 : wc.cell? ⟨gb479, 0, none⟩ = some (.int .i64 a0_0) := (blk_cell BK479.out 0).trans rfl
 have hcz14_1 : wc.cell? ⟨gb479, 1, none⟩ = some (.int .i64 a0_1) := (blk_cell BK479.out 1).trans rfl
 have hcz14_2 : wc.cell? ⟨gb479, 2, none⟩ = some (.int .i64 a0_2) := (blk_cell BK479.out 2).trans rfl
 have hcz14_3 : wc.cell? ⟨gb479, 3, none⟩ = some (.string a0_3) := (blk_cell BK479.out 3).trans rfl
 have hfz14_0 := blk_frozen BK479.out 0
 have hfz14_1 := blk_frozen BK479.out 1
 have hfz14_2 := blk_frozen BK479.out 2
 have hfz14_3 := blk_frozen BK479.out 3
 go_wp2
 go_meet
 case rel => exact ⟨_, (false), zcj_4, H', ⟨by have := HJ1.out; first | omega | exact Nat.le_refl _⟩, ⟨zcj_31⟩, ⟨zcj_22⟩⟩
 }
 {
 rw [if_neg c13] at H
 have c13b0 : (a0_3.toList == ([] : List UInt8)) = false := beq_eq_false_iff_ne.mpr c13
 have c13b1 : (a0_3.toList != ([] : List UInt8)) = true := bne_iff_ne.mpr c13
 (first | rw [c13b0] | (simp only [i64_w, i32_w]; rw [c13b0]) | skip)
 replace H := Option.bind_eq_some_iff.mp H
 obtain ⟨t480, A150, H⟩ := H
 try dsimp only at H
 have A15 := Aside0.mk A150
 clear A150
 have H' := Aside0.mk H
 clear H
 have hcz16_0 : wc.cell? ⟨gb479, 0, none⟩ = some (.int .i64 a0_0) := (blk_cell BK479.out 0).trans rfl
 have hcz16_1 : wc.cell? ⟨gb479, 1, none⟩ = some (.int .i64 a0_1) := (blk_cell BK479.out 1).trans rfl
 have hcz16_2 : wc.cell? ⟨gb479, 2, none⟩ = some (.int .i64 a0_2) := (blk_cell BK479.out 2).trans rfl
 have hcz16_3 : wc.cell? ⟨gb479, 3, none⟩ = some (.string a0_3) := (blk_cell BK479.out 3).trans rfl
 have hfz16_0 := blk_frozen BK479.out 0
 have hfz16_1 := blk_frozen BK479.out 1
 have hfz16_2 := blk_frozen BK479.out 2
 have hfz16_3 := blk_frozen BK479.out 3
 go_wp2_with (first | (go_at_call 44; (with_reducible refine (strings_ContainsAny.calls a0_3 (⟨#[32, 10]⟩ : ByteArray) t480 _ A15.out).mono ?_); rintro e w17 ⟨rfl, hb⟩; refine zcj_f3 ?_; clear BK479; clear HB; intro BK479 HB; (try clear hb); (try clear hb2); (try clear hk); (try clear hi)))
 go_meet
 case rel => exact ⟨_, (!t480), zcj_4, H', ⟨by have := HJ1.out; first | omega | exact Nat.le_refl _⟩, ⟨zcj_31⟩, ⟨zcj_22⟩⟩
 }
 )
 case rest =>(
 clear HC12
 obtain ⟨kq, x3_11, rfl, HA, HJ11, BK479, HB⟩ := hcut
 cases kq with
 | zero => exact absurd HA.out (by simp [impl_deedText.j1])
 | succ kj11 =>(
 have H := HA.out
 clear HA
 simp only [impl_deedText.j1] at H
 have HC18 := Aside0.mk H
 clear H
 go_upto_region 4 with (fail)
 go_cut [31] (fun v31 wc => ∃ (kq : Nat) (x31_17 : Bool), v31 = .bool x31_17 ∧ Aside0 (impl_deedText.j2 kq x3_11 x31_17 a0_0 a0_1 a0_2 a0_3 = some r) ∧ Aside0 (kq ≤ kj11) ∧ Aside0 (wc.heap[gb479]? = some (.cells #[.int .i64 a0_0, .int .i64 a0_1, .int .i64 a0_2, .string a0_3] 30 (0, 0))) ∧ Aside0 (Below w.heap.size w wc))
 case first =>(
 have H := HC18.out
 clear HC18
 by_cases c19 : a0_0 = 0
 {
 rw [if_pos c19] at H
 have c19b0 : (a0_0 == 0) = true := beq_iff_eq.mpr c19
 have c19b1 : (a0_0 != 0) = false := bne_eq_false_iff_eq.mpr c19
 clear c19
 (first | rw [c19b0] | (simp only [i64_w, i32_w]; rw [c19b0]) | skip)
 by_cases c20 : a0_2 = 0
 {
 rw [if_pos c20] at H
 have c20b0 : (a0_2 == 0) = true := beq_iff_eq.mpr c20
 have c20b1 : (a0_2 != 0) = false := bne_eq_false_iff_eq.mpr c20
 clear c20
 have H' := Aside0.mk H
 clear H
 have hcz21_0 : wc.cell? ⟨gb479, 0, none⟩ = some (.int .i64 a0_0) := (blk_cell BK479.out 0).trans rfl
 have hcz21_1 : wc.cell? ⟨gb479, 1, none⟩ = some (.int .i64 a0_1) := (blk_cell BK479.out 1).trans rfl
 have hcz21_2 : wc.cell? ⟨gb479, 2, none⟩ = some (.int .i64 a0_2) := (blk_cell BK479.out 2).trans rfl
 have hcz21_3 : wc.cell? ⟨gb479, 3, none⟩ = some (.string a0_3) := (blk_cell BK479.out 3).trans rfl
 have hfz21_0 := blk_frozen BK479.out 0
 have hfz21_1 := blk_frozen BK479.out 1
 have hfz21_2 := blk_frozen BK479.out 2
 have hfz21_3 := blk_frozen BK479.out 3
 go_wp2
 go_meet
 case rel => exact ⟨_, ((a0_3.toList == ([] : List UInt8))), zcj_4, H', ⟨zcj_105⟩, ⟨zcj_31⟩, ⟨zcj_22⟩⟩
 }
 {
 rw [if_neg c20] at H
 have c20b0 : (a0_2 == 0) = false := beq_eq_false_iff_ne.mpr c20
 have c20b1 : (a0_2 != 0) = true := bne_iff_ne.mpr c20
 have H' := Aside0.mk H
 clear H
 have hcz22_0 : wc.cell? ⟨gb479, 0, none⟩ = some (.int .i64 a0_0) := (blk_cell BK479.out 0).trans rfl
 have hcz22_1 : wc.cell? ⟨gb479, 1, none⟩ = some (.int .i64 a0_1) := (blk_cell BK479.out 1).trans rfl
 have hcz22_2 : wc.cell? ⟨gb479, 2, none⟩ = some (.int .i64 a0_2) := (blk_cell BK479.out 2).trans rfl
 have hcz22_3 : wc.cell? ⟨gb479, 3, none⟩ = some (.string a0_3) := (blk_cell BK479.out 3).trans rfl
 have hfz22_0 := blk_frozen BK479.out 0
 have hfz22_1 := blk_frozen BK479.out 1
 have hfz22_2 := blk_frozen BK479.out 2
 have hfz22_3 := blk_frozen BK479.out 3
 go_wp2
 go_meet
 case rel => exact ⟨_, (false), zcj_4, H', ⟨zcj_105⟩, ⟨zcj_31⟩, ⟨zcj_22⟩⟩
 }
 }
 {
 rw [if_neg c19] at H
 have c19b0 : (a0_0 == 0) = false := beq_eq_false_iff_ne.mpr c19
 have c19b1 : (a0_0 != 0) = true := bne_iff_ne.mpr c19
 (first | rw [c19b0] | (simp only [i64_w, i32_w]; rw [c19b0]) | skip)
 have H' := Aside0.mk H
 clear H
 have hcz23_0 : wc.cell? ⟨gb479, 0, none⟩ = some (.int .i64 a0_0) := (blk_cell BK479.out 0).trans rfl
 have hcz23_1 : wc.cell? ⟨gb479, 1, none⟩ = some (.int .i64 a0_1) := (blk_cell BK479.out 1).trans rfl
 have hcz23_2 : wc.cell? ⟨gb479, 2, none⟩ = some (.int .i64 a0_2) := (blk_cell BK479.out 2).trans rfl
 have hcz23_3 : wc.cell? ⟨gb479, 3, none⟩ = some (.string a0_3) := (blk_cell BK479.out 3).trans rfl
 have hfz23_0 := blk_frozen BK479.out 0
 have hfz23_1 := blk_frozen BK479.out 1
 have hfz23_2 := blk_frozen BK479.out 2
 have hfz23_3 := blk_frozen BK479.out 3
 go_wp2
 go_meet
 case rel => exact ⟨_, (false), zcj_4, H', ⟨zcj_105⟩, ⟨zcj_31⟩, ⟨zcj_22⟩⟩
 }
 )
 case rest =>(
 clear HC18
 obtain ⟨kq, x31_17, rfl, HA, HJ17, BK479, HB⟩ := hcut
 cases kq with
 | zero => exact absurd HA.out (by simp [impl_deedText.j2])
 | succ kj17 =>(
 have H := HA.out
 clear HA
 simp only [impl_deedText.j2] at H
 by_cases c24 : x31_17 = true
 {
 subst c24
 rw [if_pos rfl] at H
 replace H := Option.bind_eq_some_iff.mp H
 obtain ⟨t481, A250, H⟩ := H
 try dsimp only at H
 have A25 := Aside0.mk A250
 clear A250
 by_cases c26 : 5 + t481.size ≤ 9223372036854775807
 {
 rw [if_pos c26] at H
 have c26b0 := eq_true c26
 have c26b1 : decide (5 + t481.size ≤ 9223372036854775807) = true := decide_eq_true c26
 try have c26b2 : (9223372036854775807 < 5 + t481.size) = False := eq_false (Nat.not_lt.2 c26)
 obtain rfl := Option.some.inj H
 have hcz27_0 : wc.cell? ⟨gb479, 0, none⟩ = some (.int .i64 a0_0) := (blk_cell BK479.out 0).trans rfl
 have hcz27_1 : wc.cell? ⟨gb479, 1, none⟩ = some (.int .i64 a0_1) := (blk_cell BK479.out 1).trans rfl
 have hcz27_2 : wc.cell? ⟨gb479, 2, none⟩ = some (.int .i64 a0_2) := (blk_cell BK479.out 2).trans rfl
 have hcz27_3 : wc.cell? ⟨gb479, 3, none⟩ = some (.string a0_3) := (blk_cell BK479.out 3).trans rfl
 have hfz27_0 := blk_frozen BK479.out 0
 have hfz27_1 := blk_frozen BK479.out 1
 have hfz27_2 := blk_frozen BK479.out 2
 have hfz27_3 := blk_frozen BK479.out 3
 go_wp2_with (first | ((with_reducible refine gate_callee (f := 45) rfl ?_); refine goesL_ (some 47) rfl rfl Tryd.func45 (by kernel_rfl) rfl #[.int .i64 a0_1] rfl zcj_3 ?_; (with_reducible refine (strconv_Itoa.calls a0_1 t481 _ A25.out).mono ?_); rintro e w28 ⟨rfl, hb⟩; refine ⟨_, rfl, ?_⟩; refine zcj_f3 ?_; clear BK479; clear HB; intro BK479 HB; (try clear hb); (try clear hb2); (try clear hk); (try clear hi)))
 go_ret
 exact ⟨zcj_13, zcj_22⟩
 }
 {
 rw [if_neg c26] at H
 exact absurd H (by simp)
 }
 }
 {
 replace c24 := Bool.eq_false_iff.mpr c24
 subst c24
 rw [if_neg (show ¬ (false = true) by decide)] at H
 have HC29 := Aside0.mk H
 clear H
 go_upto_region 6 with (fail)
 go_cut [49] (fun v49 wc => ∃ (kq : Nat) (x49_28 : Bool), v49 = .bool x49_28 ∧ Aside0 (impl_deedText.j3 kq x3_11 x49_28 a0_0 a0_1 a0_2 a0_3 = some r) ∧ Aside0 (kq ≤ kj17) ∧ Aside0 (wc.heap[gb479]? = some (.cells #[.int .i64 a0_0, .int .i64 a0_1, .int .i64 a0_2, .string a0_3] 30 (0, 0))) ∧ Aside0 (Below w.heap.size w wc))
 case first =>(
 have H := HC29.out
 clear HC29
 by_cases c30 : a0_0 = 1
 {
 rw [if_pos c30] at H
 have c30b0 : (a0_0 == 1) = true := beq_iff_eq.mpr c30
 have c30b1 : (a0_0 != 1) = false := bne_eq_false_iff_eq.mpr c30
 clear c30
 (first | rw [c30b0] | (simp only [i64_w, i32_w]; rw [c30b0]) | skip)
 by_cases c31 : a0_1 = 0
 {
 rw [if_pos c31] at H
 have c31b0 : (a0_1 == 0) = true := beq_iff_eq.mpr c31
 have c31b1 : (a0_1 != 0) = false := bne_eq_false_iff_eq.mpr c31
 clear c31
 by_cases c32 : a0_2 = 0
 {
 rw [if_pos c32] at H
 have c32b0 : (a0_2 == 0) = true := beq_iff_eq.mpr c32
 have c32b1 : (a0_2 != 0) = false := bne_eq_false_iff_eq.mpr c32
 clear c32
 have H' := Aside0.mk H
 clear H
 have hcz33_0 : wc.cell? ⟨gb479, 0, none⟩ = some (.int .i64 a0_0) := (blk_cell BK479.out 0).trans rfl
 have hcz33_1 : wc.cell? ⟨gb479, 1, none⟩ = some (.int .i64 a0_1) := (blk_cell BK479.out 1).trans rfl
 have hcz33_2 : wc.cell? ⟨gb479, 2, none⟩ = some (.int .i64 a0_2) := (blk_cell BK479.out 2).trans rfl
 have hcz33_3 : wc.cell? ⟨gb479, 3, none⟩ = some (.string a0_3) := (blk_cell BK479.out 3).trans rfl
 have hfz33_0 := blk_frozen BK479.out 0
 have hfz33_1 := blk_frozen BK479.out 1
 have hfz33_2 := blk_frozen BK479.out 2
 have hfz33_3 := blk_frozen BK479.out 3
 go_wp2
 go_meet
 case rel => exact ⟨_, (x3_11), zcj_4, H', ⟨zcj_91⟩, ⟨zcj_31⟩, ⟨zcj_22⟩⟩
 }
 {
 rw [if_neg c32] at H
 have c32b0 : (a0_2 == 0) = false := beq_eq_false_iff_ne.mpr c32
 have c32b1 : (a0_2 != 0) = true := bne_iff_ne.mpr c32
 have H' := Aside0.mk H
 clear H
 have hcz34_0 : wc.cell? ⟨gb479, 0, none⟩ = some (.int .i64 a0_0) := (blk_cell BK479.out 0).trans rfl
 have hcz34_1 : wc.cell? ⟨gb479, 1, none⟩ = some (.int .i64 a0_1) := (blk_cell BK479.out 1).trans rfl
 have hcz34_2 : wc.cell? ⟨gb479, 2, none⟩ = some (.int .i64 a0_2) := (blk_cell BK479.out 2).trans rfl
 have hcz34_3 : wc.cell? ⟨gb479, 3, none⟩ = some (.string a0_3) := (blk_cell BK479.out 3).trans rfl
 have hfz34_0 := blk_frozen BK479.out 0
 have hfz34_1 := blk_frozen BK479.out 1
 have hfz34_2 := blk_frozen BK479.out 2
 have hfz34_3 := blk_frozen BK479.out 3
 go_wp2
 go_meet
 case rel => exact ⟨_, (false), zcj_4, H', ⟨zcj_91⟩, ⟨zcj_31⟩, ⟨zcj_22⟩⟩
 }
 }
 {
 rw [if_neg c31] at H
 have c31b0 : (a0_1 == 0) = false := beq_eq_false_iff_ne.mpr c31
 have c31b1 : (a0_1 != 0) = true := bne_iff_ne.mpr c31
 have H' := Aside0.mk H
 clear H
 have hcz35_0 : wc.cell? ⟨gb479, 0, none⟩ = some (.int .i64 a0_0) := (blk_cell BK479.out 0).trans rfl
 have hcz35_1 : wc.cell? ⟨gb479, 1, none⟩ = some (.int .i64 a0_1) := (blk_cell BK479.out 1).trans rfl
 have hcz35_2 : wc.cell? ⟨gb479, 2, none⟩ = some (.int .i64 a0_2) := (blk_cell BK479.out 2).trans rfl
 have hcz35_3 : wc.cell? ⟨gb479, 3, none⟩ = some (.string a0_3) := (blk_cell BK479.out 3).trans rfl
 have hfz35_0 := blk_frozen BK479.out 0
 have hfz35_1 := blk_frozen BK479.out 1
 have hfz35_2 := blk_frozen BK479.out 2
 have hfz35_3 := blk_frozen BK479.out 3
 go_wp2
 go_meet
 case rel => exact ⟨_, (false), zcj_4, H', ⟨zcj_91⟩, ⟨zcj_31⟩, ⟨zcj_22⟩⟩
 }
 }
 {
 rw [if_neg c30] at H
 have c30b0 : (a0_0 == 1) = false := beq_eq_false_iff_ne.mpr c30
 have c30b1 : (a0_0 != 1) = true := bne_iff_ne.mpr c30
 (first | rw [c30b0] | (simp only [i64_w, i32_w]; rw [c30b0]) | skip)
 have H' := Aside0.mk H
 clear H
 have hcz36_0 : wc.cell? ⟨gb479, 0, none⟩ = some (.int .i64 a0_0) := (blk_cell BK479.out 0).trans rfl
 have hcz36_1 : wc.cell? ⟨gb479, 1, none⟩ = some (.int .i64 a0_1) := (blk_cell BK479.out 1).trans rfl
 have hcz36_2 : wc.cell? ⟨gb479, 2, none⟩ = some (.int .i64 a0_2) := (blk_cell BK479.out 2).trans rfl
 have hcz36_3 : wc.cell? ⟨gb479, 3, none⟩ = some (.string a0_3) := (blk_cell BK479.out 3).trans rfl
 have hfz36_0 := blk_frozen BK479.out 0
 have hfz36_1 := blk_frozen BK479.out 1
 have hfz36_2 := blk_frozen BK479.out 2
 have hfz36_3 := blk_frozen BK479.out 3
 go_wp2
 go_meet
 case rel => exact ⟨_, (false), zcj_4, H', ⟨zcj_91⟩, ⟨zcj_31⟩, ⟨zcj_22⟩⟩
 }
 )
 case rest =>(
 clear HC29
 obtain ⟨kq, x49_28, rfl, HA, HJ28, BK479, HB⟩ := hcut
 cases kq with
 | zero => exact absurd HA.out (by simp [impl_deedText.j3])
 | succ kj28 =>(
 have H := HA.out
 clear HA
 simp only [impl_deedText.j3] at H
 by_cases c37 : x49_28 = true
 {
 subst c37
 rw [if_pos rfl] at H
 by_cases c38 : 5 + a0_3.size ≤ 9223372036854775807
 {
 rw [if_pos c38] at H
 have c38b0 := eq_true c38
 have c38b1 : decide (5 + a0_3.size ≤ 9223372036854775807) = true := decide_eq_true c38
 try have c38b2 : (9223372036854775807 < 5 + a0_3.size) = False := eq_false (Nat.not_lt.2 c38)
 obtain rfl := Option.some.inj H
 have hcz39_0 : wc.cell? ⟨gb479, 0, none⟩ = some (.int .i64 a0_0) := (blk_cell BK479.out 0).trans rfl
 have hcz39_1 : wc.cell? ⟨gb479, 1, none⟩ = some (.int .i64 a0_1) := (blk_cell BK479.out 1).trans rfl
 have hcz39_2 : wc.cell? ⟨gb479, 2, none⟩ = some (.int .i64 a0_2) := (blk_cell BK479.out 2).trans rfl
 have hcz39_3 : wc.cell? ⟨gb479, 3, none⟩ = some (.string a0_3) := (blk_cell BK479.out 3).trans rfl
 have hfz39_0 := blk_frozen BK479.out 0
 have hfz39_1 := blk_frozen BK479.out 1
 have hfz39_2 := blk_frozen BK479.out 2
 have hfz39_3 := blk_frozen BK479.out 3
 go_wp2
 go_ret
 exact ⟨zcj_13, zcj_22⟩
 }
 {
 rw [if_neg c38] at H
 exact absurd H (by simp)
 }
 }
 {
 replace c37 := Bool.eq_false_iff.mpr c37
 subst c37
 rw [if_neg (show ¬ (false = true) by decide)] at H
 have HC40 := Aside0.mk H
 clear H
 go_upto_region 8 with (fail)
 go_cut [69] (fun v69 wc => ∃ (kq : Nat) (x69_39 : Bool), v69 = .bool x69_39 ∧ Aside0 (impl_deedText.j4 kq x69_39 a0_0 a0_1 a0_2 a0_3 = some r) ∧ Aside0 (kq ≤ kj28) ∧ Aside0 (wc.heap[gb479]? = some (.cells #[.int .i64 a0_0, .int .i64 a0_1, .int .i64 a0_2, .string a0_3] 30 (0, 0))) ∧ Aside0 (Below w.heap.size w wc))
 case first =>(
 have H := HC40.out
 clear HC40
 by_cases c41 : a0_0 = 2
 {
 rw [if_pos c41] at H
 have c41b0 : (a0_0 == 2) = true := beq_iff_eq.mpr c41
 have c41b1 : (a0_0 != 2) = false := bne_eq_false_iff_eq.mpr c41
 clear c41
 (first | rw [c41b0] | (simp only [i64_w, i32_w]; rw [c41b0]) | skip)
 have H' := Aside0.mk H
 clear H
 have hcz42_0 : wc.cell? ⟨gb479, 0, none⟩ = some (.int .i64 a0_0) := (blk_cell BK479.out 0).trans rfl
 have hcz42_1 : wc.cell? ⟨gb479, 1, none⟩ = some (.int .i64 a0_1) := (blk_cell BK479.out 1).trans rfl
 have hcz42_2 : wc.cell? ⟨gb479, 2, none⟩ = some (.int .i64 a0_2) := (blk_cell BK479.out 2).trans rfl
 have hcz42_3 : wc.cell? ⟨gb479, 3, none⟩ = some (.string a0_3) := (blk_cell BK479.out 3).trans rfl
 have hfz42_0 := blk_frozen BK479.out 0
 have hfz42_1 := blk_frozen BK479.out 1
 have hfz42_2 := blk_frozen BK479.out 2
 have hfz42_3 := blk_frozen BK479.out 3
 go_wp2
 go_meet
 case rel => exact ⟨_, (x3_11), zcj_4, H', ⟨zcj_129⟩, ⟨zcj_31⟩, ⟨zcj_22⟩⟩
 }
 {
 rw [if_neg c41] at H
 have c41b0 : (a0_0 == 2) = false := beq_eq_false_iff_ne.mpr c41
 have c41b1 : (a0_0 != 2) = true := bne_iff_ne.mpr c41
 (first | rw [c41b0] | (simp only [i64_w, i32_w]; rw [c41b0]) | skip)
 have H' := Aside0.mk H
 clear H
 have hcz43_0 : wc.cell? ⟨gb479, 0, none⟩ = some (.int .i64 a0_0) := (blk_cell BK479.out 0).trans rfl
 have hcz43_1 : wc.cell? ⟨gb479, 1, none⟩ = some (.int .i64 a0_1) := (blk_cell BK479.out 1).trans rfl
 have hcz43_2 : wc.cell? ⟨gb479, 2, none⟩ = some (.int .i64 a0_2) := (blk_cell BK479.out 2).trans rfl
 have hcz43_3 : wc.cell? ⟨gb479, 3, none⟩ = some (.string a0_3) := (blk_cell BK479.out 3).trans rfl
 have hfz43_0 := blk_frozen BK479.out 0
 have hfz43_1 := blk_frozen BK479.out 1
 have hfz43_2 := blk_frozen BK479.out 2
 have hfz43_3 := blk_frozen BK479.out 3
 go_wp2
 go_meet
 case rel => exact ⟨_, (false), zcj_4, H', ⟨zcj_129⟩, ⟨zcj_31⟩, ⟨zcj_22⟩⟩
 }
 )
 case rest =>(
 clear HC40
 obtain ⟨kq, x69_39, rfl, HA, HJ39, BK479, HB⟩ := hcut
 cases kq with
 | zero => exact absurd HA.out (by simp [impl_deedText.j4])
 | succ kj39 =>(
 have H := HA.out
 clear HA
 simp only [impl_deedText.j4] at H
 by_cases c44 : x69_39 = true
 {
 subst c44
 rw [if_pos rfl] at H
 replace H := Option.bind_eq_some_iff.mp H
 obtain ⟨t482, A450, H⟩ := H
 try dsimp only at H
 have A45 := Aside0.mk A450
 clear A450
 by_cases c46 : 6 + t482.size ≤ 9223372036854775807
 {
 rw [if_pos c46] at H
 have c46b0 := eq_true c46
 have c46b1 : decide (6 + t482.size ≤ 9223372036854775807) = true := decide_eq_true c46
 try have c46b2 : (9223372036854775807 < 6 + t482.size) = False := eq_false (Nat.not_lt.2 c46)
 by_cases c47 : ((⟨#[97, 109, 101, 110, 100, 32]⟩ : ByteArray) ++ t482).size + 1 ≤ 9223372036854775807
 {
 rw [if_pos c47] at H
 have c47z : 6 + t482.size + 1 ≤ 9223372036854775807 := by{
 have h_ := c47
 simp only [ByteArray.size_append] at h_
 exact h_
 }
 have c47y : (9223372036854775807 < 6 + t482.size + 1) = False := eq_false (Nat.not_lt.2 c47z)
 have c47b0 := eq_true c47
 have c47b1 : decide (((⟨#[97, 109, 101, 110, 100, 32]⟩ : ByteArray) ++ t482).size + 1 ≤ 9223372036854775807) = true := decide_eq_true c47
 try have c47b2 : (9223372036854775807 < ((⟨#[97, 109, 101, 110, 100, 32]⟩ : ByteArray) ++ t482).size + 1) = False := eq_false (Nat.not_lt.2 c47)
 replace H := Option.bind_eq_some_iff.mp H
 obtain ⟨t483, A480, H⟩ := H
 try dsimp only at H
 have A48 := Aside0.mk A480
 clear A480
 by_cases c49 : (((⟨#[97, 109, 101, 110, 100, 32]⟩ : ByteArray) ++ t482) ++ (⟨#[32]⟩ : ByteArray)).size + t483.size ≤ 9223372036854775807
 {
 rw [if_pos c49] at H
 have c49z : 6 + t482.size + 1 + t483.size ≤ 9223372036854775807 := by{
 have h_ := c49
 simp only [ByteArray.size_append] at h_
 exact h_
 }
 have c49y : (9223372036854775807 < 6 + t482.size + 1 + t483.size) = False := eq_false (Nat.not_lt.2 c49z)
 have c49b0 := eq_true c49
 have c49b1 : decide ((((⟨#[97, 109, 101, 110, 100, 32]⟩ : ByteArray) ++ t482) ++ (⟨#[32]⟩ : ByteArray)).size + t483.size ≤ 9223372036854775807) = true := decide_eq_true c49
 try have c49b2 : (9223372036854775807 < (((⟨#[97, 109, 101, 110, 100, 32]⟩ : ByteArray) ++ t482) ++ (⟨#[32]⟩ : ByteArray)).size + t483.size) = False := eq_false (Nat.not_lt.2 c49)
 by_cases c50 : ((((⟨#[97, 109, 101, 110, 100, 32]⟩ : ByteArray) ++ t482) ++ (⟨#[32]⟩ : ByteArray)) ++ t483).size + 1 ≤ 9223372036854775807
 {
 rw [if_pos c50] at H
 have c50z : 6 + t482.size + 1 + t483.size + 1 ≤ 9223372036854775807 := by{
 have h_ := c50
 simp only [ByteArray.size_append] at h_
 exact h_
 }
 have c50y : (9223372036854775807 < 6 + t482.size + 1 + t483.size + 1) = False := eq_false (Nat.not_lt.2 c50z)
 have c50b0 := eq_true c50
 have c50b1 : decide (((((⟨#[97, 109, 101, 110, 100, 32]⟩ : ByteArray) ++ t482) ++ (⟨#[32]⟩ : ByteArray)) ++ t483).size + 1 ≤ 9223372036854775807) = true := decide_eq_true c50
 try have c50b2 : (9223372036854775807 < ((((⟨#[97, 109, 101, 110, 100, 32]⟩ : ByteArray) ++ t482) ++ (⟨#[32]⟩ : ByteArray)) ++ t483).size + 1) = False := eq_false (Nat.not_lt.2 c50)
 by_cases c51 : (((((⟨#[97, 109, 101, 110, 100, 32]⟩ : ByteArray) ++ t482) ++ (⟨#[32]⟩ : ByteArray)) ++ t483) ++ (⟨#[32]⟩ : ByteArray)).size + a0_3.size ≤ 9223372036854775807
 {
 rw [if_pos c51] at H
 have c51z : 6 + t482.size + 1 + t483.size + 1 + a0_3.size ≤ 9223372036854775807 := by{
 have h_ := c51
 simp only [ByteArray.size_append] at h_
 exact h_
 }
 have c51y : (9223372036854775807 < 6 + t482.size + 1 + t483.size + 1 + a0_3.size) = False := eq_false (Nat.not_lt.2 c51z)
 have c51b0 := eq_true c51
 have c51b1 : decide ((((((⟨#[97, 109, 101, 110, 100, 32]⟩ : ByteArray) ++ t482) ++ (⟨#[32]⟩ : ByteArray)) ++ t483) ++ (⟨#[32]⟩ : ByteArray)).size + a0_3.size ≤ 9223372036854775807) = true := decide_eq_true c51
 try have c51b2 : (9223372036854775807 < (((((⟨#[97, 109, 101, 110, 100, 32]⟩ : ByteArray) ++ t482) ++ (⟨#[32]⟩ : ByteArray)) ++ t483) ++ (⟨#[32]⟩ : ByteArray)).size + a0_3.size) = False := eq_false (Nat.not_lt.2 c51)
 obtain rfl := Option.some.inj H
 try go_wp2
 refine zcj_f18 ?_
 clear BK479
 clear HB
 intro BK479 HB
 refine start_ (n := 14) (S := fun w' => w'.cell? ⟨gb479, 0, none⟩ = some (.int .i64 a0_0) ∧ w'.cell? ⟨gb479, 1, none⟩ = some (.int .i64 a0_1) ∧ w'.cell? ⟨gb479, 2, none⟩ = some (.int .i64 a0_2) ∧ w'.cell? ⟨gb479, 3, none⟩ = some (.string a0_3)) (ds := []) #[false, false, false, false, false, false, false, false, false, false, false, false, false, false] (by kernel_rfl) rfl rfl ⟨(blk_cell BK479.out 0).trans rfl, (blk_cell BK479.out 1).trans rfl, (blk_cell BK479.out 2).trans rfl, (blk_cell BK479.out 3).trans rfl⟩ (fun hHeld => ?_); refine with_tabW impl_deedText.tab9 impl_deedText.bits9 (fun HT_ HW_ => ?_)
 generalize wc.drew = w52 at BK479 HB hHeld ⊢
 refine pure_ (i := 0) (N := some 76) (v := ?_) (a' := ?_) #[true, false, false, false, false, false, false, false, false, false, false, false, false, false] rfl rfl (any_of HT_.out (by kernel_rfl)) (fun _ _ _ h => h) (Or.inl ⟨by rfl, ?_⟩) ?_ ?_
 rotate_left
 {
 intro w'
 go_simp
 with_reducible rfl
 }
 rotate_left
 {exact zcj_1}
 refine pure_ (i := 5) (N := some 81) (v := ?_) (a' := ?_) #[true, false, false, false, false, true, false, false, false, false, false, false, false, false] rfl rfl (any_of HT_.out (by kernel_rfl)) (fun _ _ _ h => h) (Or.inl ⟨by rfl, ?_⟩) ?_ ?_
 rotate_left
 {
 intro w'
 go_simp
 with_reducible rfl
 }
 rotate_left
 {exact zcj_1}
 refine pure_ (i := 10) (N := some 86) (v := ?_) (a' := ?_) #[true, false, false, false, false, true, false, false, false, false, true, false, false, false] rfl rfl (any_of HT_.out (by kernel_rfl)) (fun _ _ _ h => h) (Or.inl ⟨by rfl, ?_⟩) ?_ ?_
 rotate_left
 {
 intro w'
 go_simp
 with_reducible rfl
 }
 rotate_left
 {exact zcj_1}
 refine take_ (i := 1) (N := some 77) (v := ?_) (a' := ?_) #[true, true, false, false, false, true, false, false, false, false, true, false, false, false] rfl rfl (take_ofW HT_.out HW_.out (by kernel_rfl)) (fun _ _ _ h => h) (Or.inl ⟨by rfl, ?_⟩) hHeld ?_ ?_
 rotate_left
 {
 rintro w' ⟨s0, s1, s2, s3⟩
 go_simp
 with_reducible rfl
 }
 rotate_left
 {exact zcj_1}
 refine take_ (i := 6) (N := some 82) (v := ?_) (a' := ?_) #[true, true, false, false, false, true, true, false, false, false, true, false, false, false] rfl rfl (take_ofW HT_.out HW_.out (by kernel_rfl)) (fun _ _ _ h => h) (Or.inl ⟨by rfl, ?_⟩) hHeld ?_ ?_
 rotate_left
 {
 rintro w' ⟨s0, s1, s2, s3⟩
 go_simp
 with_reducible rfl
 }
 rotate_left
 {exact zcj_1}
 refine take_ (i := 11) (N := some 87) (v := ?_) (a' := ?_) #[true, true, false, false, false, true, true, false, false, false, true, true, false, false] rfl rfl (take_ofW HT_.out HW_.out (by kernel_rfl)) (fun _ _ _ h => h) (Or.inl ⟨by rfl, ?_⟩) hHeld ?_ ?_
 rotate_left
 {
 rintro w' ⟨s0, s1, s2, s3⟩
 go_simp
 with_reducible rfl
 }
 rotate_left
 {exact zcj_1}
 refine one_ (i := 2) (N := some 78) #[true, true, true, false, false, true, true, false, false, false, true, true, false, false] rfl rfl (one_of HT_.out (by kernel_rfl)) (by decide) (fun K hK => ?_)
 refine goes_ Tryd.func45 (by kernel_rfl) rfl #[.int .i64 a0_1] (by rfl) rfl rfl zcj_3 ?_
 with_reducible refine (strconv_Itoa.calls a0_1 t482 _ A45.out).mono ?_
 rintro e w53 ⟨rfl, hb⟩
 refine ⟨_, rfl, ?_⟩
 refine zcj_f3 ?_
 clear BK479
 clear HB
 intro BK479 HB
 (try clear hb)
 (try clear hb2)
 (try clear hk)
 (try clear hi)
 refine hK.out _ _ ⟨(blk_cell BK479.out 0).trans rfl, (blk_cell BK479.out 1).trans rfl, (blk_cell BK479.out 2).trans rfl, (blk_cell BK479.out 3).trans rfl⟩ (fun hHeld => ?_)
 clear hK K
 refine norm_ (a' := ?_) ?_ ?_
 rotate_left
 {exact zcj_106}
 refine pure_ (i := 3) (N := some 79) (v := ?_) (a' := ?_) #[true, true, true, true, false, true, true, false, false, false, true, true, false, false] rfl rfl (any_of HT_.out (by kernel_rfl)) (fun _ _ _ h => h) (Or.inl ⟨by rfl, ?_⟩) ?_ ?_
 rotate_left
 {
 intro w'
 go_simp
 with_reducible rfl
 }
 rotate_left
 {exact zcj_1}
 refine pure_ (i := 4) (N := some 80) (v := ?_) (a' := ?_) #[true, true, true, true, true, true, true, false, false, false, true, true, false, false] rfl rfl (any_of HT_.out (by kernel_rfl)) (fun _ _ _ h => h) (Or.inl ⟨by rfl, ?_⟩) ?_ ?_
 rotate_left
 {
 intro w'
 go_simp
 with_reducible rfl
 }
 rotate_left
 {exact zcj_1}
 refine one_ (i := 7) (N := some 83) #[true, true, true, true, true, true, true, true, false, false, true, true, false, false] rfl rfl (one_of HT_.out (by kernel_rfl)) (by decide) (fun K hK => ?_)
 refine goes_ Tryd.func45 (by kernel_rfl) rfl #[.int .i64 a0_2] (by rfl) rfl rfl zcj_3 ?_
 with_reducible refine (strconv_Itoa.calls a0_2 t483 _ A48.out).mono ?_
 rintro e w54 ⟨rfl, hb⟩
 refine ⟨_, rfl, ?_⟩
 refine zcj_f3 ?_
 clear BK479
 clear HB
 intro BK479 HB
 (try clear hb)
 (try clear hb2)
 (try clear hk)
 (try clear hi)
 refine hK.out _ _ ⟨(blk_cell BK479.out 0).trans rfl, (blk_cell BK479.out 1).trans rfl, (blk_cell BK479.out 2).trans rfl, (blk_cell BK479.out 3).trans rfl⟩ (fun hHeld => ?_)
 clear hK K
 refine norm_ (a' := ?_) ?_ ?_
 rotate_left
 {exact zcj_130}
 refine pure_ (i := 8) (N := some 84) (v := ?_) (a' := ?_) #[true, true, true, true, true, true, true, true, true, false, true, true, false, false] rfl rfl (any_of HT_.out (by kernel_rfl)) (fun _ _ _ h => h) (Or.inl ⟨by rfl, ?_⟩) ?_ ?_
 rotate_left
 {
 intro w'
 go_simp
 with_reducible rfl
 }
 rotate_left
 {exact zcj_1}
 refine pure_ (i := 9) (N := some 85) (v := ?_) (a' := ?_) #[true, true, true, true, true, true, true, true, true, true, true, true, false, false] rfl rfl (any_of HT_.out (by kernel_rfl)) (fun _ _ _ h => h) (Or.inl ⟨by rfl, ?_⟩) ?_ ?_
 rotate_left
 {
 intro w'
 go_simp
 with_reducible rfl
 }
 rotate_left
 {exact zcj_1}
 refine pure_ (i := 12) (N := some 88) (v := ?_) (a' := ?_) #[true, true, true, true, true, true, true, true, true, true, true, true, true, false] rfl rfl (any_of HT_.out (by kernel_rfl)) (fun _ _ _ h => h) (Or.inl ⟨by rfl, ?_⟩) ?_ ?_
 rotate_left
 {
 intro w'
 go_simp
 with_reducible rfl
 }
 rotate_left
 {exact zcj_1}
 refine pure_ (i := 13) (N := some 2) (v := ?_) (a' := ?_) #[true, true, true, true, true, true, true, true, true, true, true, true, true, true] rfl rfl (any_of HT_.out (by kernel_rfl)) (fun _ _ _ h => h) (Or.inl ⟨by rfl, ?_⟩) ?_ ?_
 rotate_left
 {
 intro w'
 go_simp
 with_reducible rfl
 }
 rotate_left
 {exact zcj_1}
 refine done_ (done_of HT_.out (by kernel_rfl)) ?_
 try go_wp2
 go_ret
 exact ⟨zcj_13, zcj_22⟩
 }
 {
 rw [if_neg c51] at H
 exact absurd H (by simp)
 }
 }
 {
 rw [if_neg c50] at H
 exact absurd H (by simp)
 }
 }
 {
 rw [if_neg c49] at H
 exact absurd H (by simp)
 }
 }
 {
 rw [if_neg c47] at H
 exact absurd H (by simp)
 }
 }
 {
 rw [if_neg c46] at H
 exact absurd H (by simp)
 }
 }
 {
 replace c44 := Bool.eq_false_iff.mpr c44
 subst c44
 rw [if_neg (show ¬ (false = true) by decide)] at H
 have HC55 := Aside0.mk H
 clear H
 go_upto_region 10 with (fail)
 go_cut [89] (fun v89 wc => ∃ (kq : Nat) (x89_54 : Bool), v89 = .bool x89_54 ∧ Aside0 (impl_deedText.j5 kq x89_54 a0_0 a0_1 a0_2 a0_3 = some r) ∧ Aside0 (kq ≤ kj39) ∧ Aside0 (wc.heap[gb479]? = some (.cells #[.int .i64 a0_0, .int .i64 a0_1, .int .i64 a0_2, .string a0_3] 30 (0, 0))) ∧ Aside0 (Below w.heap.size w wc))
 case first =>(
 have H := HC55.out
 clear HC55
 by_cases c56 : a0_0 = 3
 {
 rw [if_pos c56] at H
 have c56b0 : (a0_0 == 3) = true := beq_iff_eq.mpr c56
 have c56b1 : (a0_0 != 3) = false := bne_eq_false_iff_eq.mpr c56
 clear c56
 (first | rw [c56b0] | (simp only [i64_w, i32_w]; rw [c56b0]) | skip)
 have H' := Aside0.mk H
 clear H
 have hcz57_0 : wc.cell? ⟨gb479, 0, none⟩ = some (.int .i64 a0_0) := (blk_cell BK479.out 0).trans rfl
 have hcz57_1 : wc.cell? ⟨gb479, 1, none⟩ = some (.int .i64 a0_1) := (blk_cell BK479.out 1).trans rfl
 have hcz57_2 : wc.cell? ⟨gb479, 2, none⟩ = some (.int .i64 a0_2) := (blk_cell BK479.out 2).trans rfl
 have hcz57_3 : wc.cell? ⟨gb479, 3, none⟩ = some (.string a0_3) := (blk_cell BK479.out 3).trans rfl
 have hfz57_0 := blk_frozen BK479.out 0
 have hfz57_1 := blk_frozen BK479.out 1
 have hfz57_2 := blk_frozen BK479.out 2
 have hfz57_3 := blk_frozen BK479.out 3
 go_wp2
 go_meet
 case rel => exact ⟨_, ((a0_3.toList == ([] : List UInt8))), zcj_4, H', ⟨zcj_131⟩, ⟨zcj_31⟩, ⟨zcj_22⟩⟩
 }
 {
 rw [if_neg c56] at H
 have c56b0 : (a0_0 == 3) = false := beq_eq_false_iff_ne.mpr c56
 have c56b1 : (a0_0 != 3) = true := bne_iff_ne.mpr c56
 (first | rw [c56b0] | (simp only [i64_w, i32_w]; rw [c56b0]) | skip)
 have H' := Aside0.mk H
 clear H
 have hcz58_0 : wc.cell? ⟨gb479, 0, none⟩ = some (.int .i64 a0_0) := (blk_cell BK479.out 0).trans rfl
 have hcz58_1 : wc.cell? ⟨gb479, 1, none⟩ = some (.int .i64 a0_1) := (blk_cell BK479.out 1).trans rfl
 have hcz58_2 : wc.cell? ⟨gb479, 2, none⟩ = some (.int .i64 a0_2) := (blk_cell BK479.out 2).trans rfl
 have hcz58_3 : wc.cell? ⟨gb479, 3, none⟩ = some (.string a0_3) := (blk_cell BK479.out 3).trans rfl
 have hfz58_0 := blk_frozen BK479.out 0
 have hfz58_1 := blk_frozen BK479.out 1
 have hfz58_2 := blk_frozen BK479.out 2
 have hfz58_3 := blk_frozen BK479.out 3
 go_wp2
 go_meet
 case rel => exact ⟨_, (false), zcj_4, H', ⟨zcj_131⟩, ⟨zcj_31⟩, ⟨zcj_22⟩⟩
 }
 )
 case rest =>(
 clear HC55
 obtain ⟨kq, x89_54, rfl, HA, HJ54, BK479, HB⟩ := hcut
 cases kq with
 | zero => exact absurd HA.out (by simp [impl_deedText.j5])
 | succ kj54 =>(
 have H := HA.out
 clear HA
 simp only [impl_deedText.j5] at H
 by_cases c59 : x89_54 = true
 {
 subst c59
 rw [if_pos rfl] at H
 replace H := Option.bind_eq_some_iff.mp H
 obtain ⟨t484, A600, H⟩ := H
 try dsimp only at H
 have A60 := Aside0.mk A600
 clear A600
 by_cases c61 : 5 + t484.size ≤ 9223372036854775807
 {
 rw [if_pos c61] at H
 have c61b0 := eq_true c61
 have c61b1 : decide (5 + t484.size ≤ 9223372036854775807) = true := decide_eq_true c61
 try have c61b2 : (9223372036854775807 < 5 + t484.size) = False := eq_false (Nat.not_lt.2 c61)
 by_cases c62 : ((⟨#[100, 114, 111, 112, 32]⟩ : ByteArray) ++ t484).size + 1 ≤ 9223372036854775807
 {
 rw [if_pos c62] at H
 have c62z : 5 + t484.size + 1 ≤ 9223372036854775807 := by{
 have h_ := c62
 simp only [ByteArray.size_append] at h_
 exact h_
 }
 have c62y : (9223372036854775807 < 5 + t484.size + 1) = False := eq_false (Nat.not_lt.2 c62z)
 have c62b0 := eq_true c62
 have c62b1 : decide (((⟨#[100, 114, 111, 112, 32]⟩ : ByteArray) ++ t484).size + 1 ≤ 9223372036854775807) = true := decide_eq_true c62
 try have c62b2 : (9223372036854775807 < ((⟨#[100, 114, 111, 112, 32]⟩ : ByteArray) ++ t484).size + 1) = False := eq_false (Nat.not_lt.2 c62)
 replace H := Option.bind_eq_some_iff.mp H
 obtain ⟨t485, A630, H⟩ := H
 try dsimp only at H
 have A63 := Aside0.mk A630
 clear A630
 by_cases c64 : (((⟨#[100, 114, 111, 112, 32]⟩ : ByteArray) ++ t484) ++ (⟨#[32]⟩ : ByteArray)).size + t485.size ≤ 9223372036854775807
 {
 rw [if_pos c64] at H
 have c64z : 5 + t484.size + 1 + t485.size ≤ 9223372036854775807 := by{
 have h_ := c64
 simp only [ByteArray.size_append] at h_
 exact h_
 }
 have c64y : (9223372036854775807 < 5 + t484.size + 1 + t485.size) = False := eq_false (Nat.not_lt.2 c64z)
 have c64b0 := eq_true c64
 have c64b1 : decide ((((⟨#[100, 114, 111, 112, 32]⟩ : ByteArray) ++ t484) ++ (⟨#[32]⟩ : ByteArray)).size + t485.size ≤ 9223372036854775807) = true := decide_eq_true c64
 try have c64b2 : (9223372036854775807 < (((⟨#[100, 114, 111, 112, 32]⟩ : ByteArray) ++ t484) ++ (⟨#[32]⟩ : ByteArray)).size + t485.size) = False := eq_false (Nat.not_lt.2 c64)
 obtain rfl := Option.some.inj H
 try go_wp2
 refine zcj_f18 ?_
 clear BK479
 clear HB
 intro BK479 HB
 refine start_ (n := 10) (S := fun w' => w'.cell? ⟨gb479, 0, none⟩ = some (.int .i64 a0_0) ∧ w'.cell? ⟨gb479, 1, none⟩ = some (.int .i64 a0_1) ∧ w'.cell? ⟨gb479, 2, none⟩ = some (.int .i64 a0_2) ∧ w'.cell? ⟨gb479, 3, none⟩ = some (.string a0_3)) (ds := []) #[false, false, false, false, false, false, false, false, false, false] (by kernel_rfl) rfl rfl ⟨(blk_cell BK479.out 0).trans rfl, (blk_cell BK479.out 1).trans rfl, (blk_cell BK479.out 2).trans rfl, (blk_cell BK479.out 3).trans rfl⟩ (fun hHeld => ?_); refine with_tabW impl_deedText.tab11 impl_deedText.bits11 (fun HT_ HW_ => ?_)
 generalize wc.drew = w65 at BK479 HB hHeld ⊢
 refine pure_ (i := 0) (N := some 98) (v := ?_) (a' := ?_) #[true, false, false, false, false, false, false, false, false, false] rfl rfl (any_of HT_.out (by kernel_rfl)) (fun _ _ _ h => h) (Or.inl ⟨by rfl, ?_⟩) ?_ ?_
 rotate_left
 {
 intro w'
 go_simp
 with_reducible rfl
 }
 rotate_left
 {exact zcj_1}
 refine pure_ (i := 5) (N := some 103) (v := ?_) (a' := ?_) #[true, false, false, false, false, true, false, false, false, false] rfl rfl (any_of HT_.out (by kernel_rfl)) (fun _ _ _ h => h) (Or.inl ⟨by rfl, ?_⟩) ?_ ?_
 rotate_left
 {
 intro w'
 go_simp
 with_reducible rfl
 }
 rotate_left
 {exact zcj_1}
 refine take_ (i := 1) (N := some 99) (v := ?_) (a' := ?_) #[true, true, false, false, false, true, false, false, false, false] rfl rfl (take_ofW HT_.out HW_.out (by kernel_rfl)) (fun _ _ _ h => h) (Or.inl ⟨by rfl, ?_⟩) hHeld ?_ ?_
 rotate_left
 {
 rintro w' ⟨s0, s1, s2, s3⟩
 go_simp
 with_reducible rfl
 }
 rotate_left
 {exact zcj_1}
 refine take_ (i := 6) (N := some 104) (v := ?_) (a' := ?_) #[true, true, false, false, false, true, true, false, false, false] rfl rfl (take_ofW HT_.out HW_.out (by kernel_rfl)) (fun _ _ _ h => h) (Or.inl ⟨by rfl, ?_⟩) hHeld ?_ ?_
 rotate_left
 {
 rintro w' ⟨s0, s1, s2, s3⟩
 go_simp
 with_reducible rfl
 }
 rotate_left
 {exact zcj_1}
 refine one_ (i := 2) (N := some 100) #[true, true, true, false, false, true, true, false, false, false] rfl rfl (one_of HT_.out (by kernel_rfl)) (by decide) (fun K hK => ?_)
 refine goes_ Tryd.func45 (by kernel_rfl) rfl #[.int .i64 a0_1] (by rfl) rfl rfl zcj_3 ?_
 with_reducible refine (strconv_Itoa.calls a0_1 t484 _ A60.out).mono ?_
 rintro e w66 ⟨rfl, hb⟩
 refine ⟨_, rfl, ?_⟩
 refine zcj_f3 ?_
 clear BK479
 clear HB
 intro BK479 HB
 (try clear hb)
 (try clear hb2)
 (try clear hk)
 (try clear hi)
 refine hK.out _ _ ⟨(blk_cell BK479.out 0).trans rfl, (blk_cell BK479.out 1).trans rfl, (blk_cell BK479.out 2).trans rfl, (blk_cell BK479.out 3).trans rfl⟩ (fun hHeld => ?_)
 clear hK K
 refine norm_ (a' := ?_) ?_ ?_
 rotate_left
 {show Act.put _ (some 100) _ = _; simp only [Act.put, List.setIfInBounds_toArray, List.set_cons_zero, List.set_cons_succ, i64_w, i32_w]; rfl}
 refine pure_ (i := 3) (N := some 101) (v := ?_) (a' := ?_) #[true, true, true, true, false, true, true, false, false, false] rfl rfl (any_of HT_.out (by kernel_rfl)) (fun _ _ _ h => h) (Or.inl ⟨by rfl, ?_⟩) ?_ ?_
 rotate_left
 {
 intro w'
 go_simp
 with_reducible rfl
 }
 rotate_left
 {exact zcj_1}
 refine pure_ (i := 4) (N := some 102) (v := ?_) (a' := ?_) #[true, true, true, true, true, true, true, false, false, false] rfl rfl (any_of HT_.out (by kernel_rfl)) (fun _ _ _ h => h) (Or.inl ⟨by rfl, ?_⟩) ?_ ?_
 rotate_left
 {
 intro w'
 go_simp
 with_reducible rfl
 }
 rotate_left
 {exact zcj_1}
 refine one_ (i := 7) (N := some 105) #[true, true, true, true, true, true, true, true, false, false] rfl rfl (one_of HT_.out (by kernel_rfl)) (by decide) (fun K hK => ?_)
 refine goes_ Tryd.func45 (by kernel_rfl) rfl #[.int .i64 a0_2] (by rfl) rfl rfl zcj_3 ?_
 with_reducible refine (strconv_Itoa.calls a0_2 t485 _ A63.out).mono ?_
 rintro e w67 ⟨rfl, hb⟩
 refine ⟨_, rfl, ?_⟩
 refine zcj_f3 ?_
 clear BK479
 clear HB
 intro BK479 HB
 (try clear hb)
 (try clear hb2)
 (try clear hk)
 (try clear hi)
 refine hK.out _ _ ⟨(blk_cell BK479.out 0).trans rfl, (blk_cell BK479.out 1).trans rfl, (blk_cell BK479.out 2).trans rfl, (blk_cell BK479.out 3).trans rfl⟩ (fun hHeld => ?_)
 clear hK K
 refine norm_ (a' := ?_) ?_ ?_
 rotate_left
 {show Act.put _ (some 105) _ = _; simp only [Act.put, List.setIfInBounds_toArray, List.set_cons_zero, List.set_cons_succ, i64_w, i32_w]; rfl}
 refine pure_ (i := 8) (N := some 106) (v := ?_) (a' := ?_) #[true, true, true, true, true, true, true, true, true, false] rfl rfl (any_of HT_.out (by kernel_rfl)) (fun _ _ _ h => h) (Or.inl ⟨by rfl, ?_⟩) ?_ ?_
 rotate_left
 {
 intro w'
 go_simp
 with_reducible rfl
 }
 rotate_left
 {exact zcj_1}
 refine pure_ (i := 9) (N := some 2) (v := ?_) (a' := ?_) #[true, true, true, true, true, true, true, true, true, true] rfl rfl (any_of HT_.out (by kernel_rfl)) (fun _ _ _ h => h) (Or.inl ⟨by rfl, ?_⟩) ?_ ?_
 rotate_left
 {
 intro w'
 go_simp
 with_reducible rfl
 }
 rotate_left
 {exact zcj_1}
 refine done_ (done_of HT_.out (by kernel_rfl)) ?_
 try go_wp2
 go_ret
 exact ⟨zcj_13, zcj_22⟩
 }
 {
 rw [if_neg c64] at H
 exact absurd H (by simp)
 }
 }
 {
 rw [if_neg c62] at H
 exact absurd H (by simp)
 }
 }
 {
 rw [if_neg c61] at H
 exact absurd H (by simp)
 }
 }
 {
 replace c59 := Bool.eq_false_iff.mpr c59
 subst c59
 rw [if_neg (show ¬ (false = true) by decide)] at H
 by_cases c68 : (a0_0 == 4 && (a0_1 == 0 && (a0_2 == 0 && (a0_3.toList == ([] : List UInt8))))) = true
 {
 rw [if_pos c68] at H
 have c68b0 : (a0_0 == 4 && (a0_1 == 0 && (a0_2 == 0 && (a0_3.toList == ([] : List UInt8))))) = true := c68
 have c68be : (a0_0 == 4 && (a0_1 == 0 && (a0_2 == 0 && a0_3.toList.isEmpty))) = true := by simpa using c68b0
 (try (have c68b1 : decide (a0_0 = 4 && (a0_1 == 0 && (a0_2 == 0 && (a0_3.toList == ([] : List UInt8))))) = true := by simpa using c68))
 (try (have c68b2 : (a0_0 == 4 && (a0_1 == 0 && (a0_2 == 0 && (a0_3.toList == ([] : List UInt8))))) = true := by simpa using c68))
 clear c68
 obtain rfl := Option.some.inj H
 have hcz69_0 : wc.cell? ⟨gb479, 0, none⟩ = some (.int .i64 a0_0) := (blk_cell BK479.out 0).trans rfl
 have hcz69_1 : wc.cell? ⟨gb479, 1, none⟩ = some (.int .i64 a0_1) := (blk_cell BK479.out 1).trans rfl
 have hcz69_2 : wc.cell? ⟨gb479, 2, none⟩ = some (.int .i64 a0_2) := (blk_cell BK479.out 2).trans rfl
 have hcz69_3 : wc.cell? ⟨gb479, 3, none⟩ = some (.string a0_3) := (blk_cell BK479.out 3).trans rfl
 have hfz69_0 := blk_frozen BK479.out 0
 have hfz69_1 := blk_frozen BK479.out 1
 have hfz69_2 := blk_frozen BK479.out 2
 have hfz69_3 := blk_frozen BK479.out 3
 go_wp2
 go_ret
 exact ⟨zcj_13, zcj_22⟩
 }
 {
 rw [if_neg c68] at H
 have c68b0 : (a0_0 == 4 && (a0_1 == 0 && (a0_2 == 0 && (a0_3.toList == ([] : List UInt8))))) = false := by simpa using c68
 have c68be : (a0_0 == 4 && (a0_1 == 0 && (a0_2 == 0 && a0_3.toList.isEmpty))) = false := by simpa using c68b0
 (try (have c68b1 : decide (a0_0 = 4 && (a0_1 == 0 && (a0_2 == 0 && (a0_3.toList == ([] : List UInt8))))) = false := by simpa using c68))
 (try (have c68b2 : (a0_0 == 4 && (a0_1 == 0 && (a0_2 == 0 && (a0_3.toList == ([] : List UInt8))))) = false := by simpa using c68))
 (try (have c68b3 : ¬ (a0_0 = 4 && (a0_1 == 0 && (a0_2 == 0 && (a0_3.toList == ([] : List UInt8))))) := by simpa using c68))
 clear c68
 obtain rfl := Option.some.inj H
 have hcz70_0 : wc.cell? ⟨gb479, 0, none⟩ = some (.int .i64 a0_0) := (blk_cell BK479.out 0).trans rfl
 have hcz70_1 : wc.cell? ⟨gb479, 1, none⟩ = some (.int .i64 a0_1) := (blk_cell BK479.out 1).trans rfl
 have hcz70_2 : wc.cell? ⟨gb479, 2, none⟩ = some (.int .i64 a0_2) := (blk_cell BK479.out 2).trans rfl
 have hcz70_3 : wc.cell? ⟨gb479, 3, none⟩ = some (.string a0_3) := (blk_cell BK479.out 3).trans rfl
 have hfz70_0 := blk_frozen BK479.out 0
 have hfz70_1 := blk_frozen BK479.out 1
 have hfz70_2 := blk_frozen BK479.out 2
 have hfz70_3 := blk_frozen BK479.out 3
 go_wp2
 go_ret
 exact ⟨zcj_13, zcj_22⟩
 }
 }
 )
 )
 }
 )
 )
 }
 )
 )
 }
 )
 )
 )
 )
 }
 )
 )
end Go.Proofs.YtnkfbappnpnaoaaDoor.Q
