/- A part of this claim's proof: functions of the program as plain functions, with the proof that the code comes to their answers, and facts about them. Condition: none of its own. -/
import Derived.Test.YtnkfbappnpnaoaaDoorCJx1
import Derived.Test.YtnkfbappnpnaoaaDoorCJx11
import Derived.Test.YtnkfbappnpnaoaaDoorCJx7
import Derived.Test.YtnkfbappnpnaoaaDoorCJx12
import Derived.Test.YtnkfbappnpnaoaaDoorCJz
namespace Go.Proofs.YtnkfbappnpnaoaaDoor.Q
open Go.RowKit Go.Proofs.YtnkfbappnpnaoaaDoorW.PrintWords Go.Proofs.YtnkfbappnpnaoaaDoorW.PrintLast Go.Proofs.YtnkfbappnpnaoaaDoorW.PrintMore
attribute [local go_sem] max2_int min2_int max_two min_two max_three min_three max_four min_four   -- for this text's walks alone
set_option linter.unusedVariables false
set_option linter.unusedSimpArgs false
def spec_l20Deed.j0 : Nat → List Int → Int → Int → Int → Int → ByteArray → Option (Int × Int × Int × ByteArray × Int)
  | 0, _, _, _, _, _, _ => none
  | k + 1, x1000, x1001, x371000, x371001, x371002, x371003 => (spec_l20Rd_odd.f k x1000 x1001 40).bind fun bt395 => (if bt395.1 = true then ((spec_l20Rd_pick.f k x1000 bt395.2 3).bind fun bt397 => (if bt397.1 = 0 then ((some (([(-1), 100] : List Int) : List Int)).bind fun y399 => ((spec_l20Rd_pick.f k x1000 bt397.2 2).bind fun bt402 => (if 0 ≤ bt402.1 then (if bt402.1 < (y399.length : Int) then (some (x371000, rd y399 bt402.1, x371002, x371003, bt402.2)) else (none)) else (none)))) else (if bt397.1 = 1 then ((some (([(⟨#[40, 65, 49, 41]⟩ : ByteArray), (⟨#[97, 32, 98]⟩ : ByteArray), (⟨#[]⟩ : ByteArray)] : List ByteArray) : List ByteArray)).bind fun y405 => ((spec_l20Rd_pick.f k x1000 bt397.2 3).bind fun bt408 => (if 0 ≤ bt408.1 then (if bt408.1 < (y405.length : Int) then (some (x371000, x371001, x371002, rdOf ByteArray.empty y405 bt408.1, bt408.2)) else (none)) else (none)))) else (some (x371000, x371001, 99, x371003, bt397.2))))) else (some (x371000, x371001, x371002, x371003, bt395.2)))
def spec_l20Deed.f (k : Nat) (s0_0 : List Int) (s0_1 : Int) (a1_0 : Int) (l1_1 : List Int) (l1_2 : List ByteArray) : Option (Int × Int × Int × ByteArray × Int) := (some (([0, 1, 2, 2, 2, 2, 3, 4] : List Int) : List Int)).bind fun y362 => ((spec_l20Rd_pick.f k s0_0 s0_1 8).bind fun bt365 => (if 0 ≤ bt365.1 then (if bt365.1 < (y362.length : Int) then ((spec_l20Rd_pick.f k s0_0 bt365.2 60).bind fun bt368 => (if (wrap64 ((rd y362 bt365.1) + (wrap64 ((wrap64 (Int.tdiv bt368.1 59)) * 5)))) = 0 then ((spec_l20Rd_pick.f k s0_0 bt368.2 (wrap64 ((wrap64 (2 ^ (mn (mx a1_0 1) 6).toNat)) - 1))).bind fun bt371 => (spec_l20Deed.j0 k s0_0 bt371.2 (wrap64 ((rd y362 bt365.1) + (wrap64 ((wrap64 (Int.tdiv bt368.1 59)) * 5)))) (wrap64 (1 + bt371.1)) 0 (⟨#[]⟩ : ByteArray))) else (if (wrap64 ((rd y362 bt365.1) + (wrap64 ((wrap64 (Int.tdiv bt368.1 59)) * 5)))) = 1 then ((spec_l20Term.f k s0_0 bt368.2 a1_0 l1_1 0).bind fun bt373 => ((spec_TermText.f k a1_0 l1_1 bt373.1).bind fun t377 => (spec_l20Deed.j0 k s0_0 bt373.2 (wrap64 ((rd y362 bt365.1) + (wrap64 ((wrap64 (Int.tdiv bt368.1 59)) * 5)))) 0 0 t377))) else (if (wrap64 ((rd y362 bt365.1) + (wrap64 ((wrap64 (Int.tdiv bt368.1 59)) * 5)))) = 2 then ((spec_l20Rd_pick.f k s0_0 bt368.2 (mx (l1_2.length : Int) 1)).bind fun bt378 => ((spec_l20Rd_pick.f k s0_0 bt378.2 (wrap64 (2 ^ (mn (mx a1_0 1) 6).toNat))).bind fun bt380 => ((spec_l20Rd_pick.f k s0_0 bt380.2 (wrap64 (2 ^ (mn (mx a1_0 1) 6).toNat))).bind fun bt382 => ((spec_l20Term.f k s0_0 bt382.2 a1_0 l1_1 0).bind fun bt384 => ((spec_TermText.f k a1_0 l1_1 bt384.1).bind fun t388 => (spec_l20Deed.j0 k s0_0 bt384.2 (wrap64 ((rd y362 bt365.1) + (wrap64 ((wrap64 (Int.tdiv bt368.1 59)) * 5)))) bt378.1 (Go.bits .or .i64 bt380.1 bt382.1) t388)))))) else (if (wrap64 ((rd y362 bt365.1) + (wrap64 ((wrap64 (Int.tdiv bt368.1 59)) * 5)))) = 3 then ((spec_l20Rd_pick.f k s0_0 bt368.2 (mx (l1_2.length : Int) 1)).bind fun bt389 => ((spec_l20Rd_pick.f k s0_0 bt389.2 (wrap64 (2 ^ (mn (mx a1_0 1) 6).toNat))).bind fun bt391 => ((spec_l20Rd_pick.f k s0_0 bt391.2 (wrap64 (2 ^ (mn (mx a1_0 1) 6).toNat))).bind fun bt393 => (spec_l20Deed.j0 k s0_0 bt393.2 (wrap64 ((rd y362 bt365.1) + (wrap64 ((wrap64 (Int.tdiv bt368.1 59)) * 5)))) bt389.1 (Go.bits .or .i64 bt391.1 bt393.1) (⟨#[]⟩ : ByteArray))))) else (spec_l20Deed.j0 k s0_0 bt368.2 (wrap64 ((rd y362 bt365.1) + (wrap64 ((wrap64 (Int.tdiv bt368.1 59)) * 5)))) 0 0 (⟨#[]⟩ : ByteArray))))))) else (none)) else (none)))
def spec_l20Deed.T1 : Bool × List (List Nat × List Nat) := (true, [([], []), ([], []), ([1], [1]), ([0, 2], [0, 2]), ([3], [3]), ([], []), ([5, 2], [5]), ([6], [6]), ([7], [7]), ([4, 8], [4, 8]), ([9], [9]), ([], []), ([11, 10, 6, 0, 1, 2, 3, 4, 5, 6, 7, 8, 9, 10, 11], [10, 11])])
def spec_l20Deed.B1 : List Nat := [0, 0, 2, 7, 15, 0, 38, 102, 230, 511, 1023, 0, 4095]
theorem spec_l20Deed.tab1 : rtab .any (opsOf Tryd.f27 1) = spec_l20Deed.T1 := by kernel_rfl
theorem spec_l20Deed.bits1 : waitsOk spec_l20Deed.T1.2 spec_l20Deed.B1 = true := by kernel_rfl
def spec_l20Deed.T7 : Bool × List (List Nat × List Nat) := (true, [([], []), ([0], [0]), ([], []), ([], []), ([3], [3]), ([2, 4], [2, 4]), ([1, 5, 5], [1, 5]), ([0, 1, 2, 3, 4, 5, 6], []), ([7, 6, 6, 0, 1, 2, 3, 4, 5, 6], [6, 7])])
def spec_l20Deed.B7 : List Nat := [0, 1, 0, 0, 8, 28, 63, 127, 255]
theorem spec_l20Deed.tab7 : rtab .any (opsOf Tryd.f27 7) = spec_l20Deed.T7 := by kernel_rfl
theorem spec_l20Deed.bits7 : waitsOk spec_l20Deed.T7.2 spec_l20Deed.B7 = true := by kernel_rfl
def spec_l20Deed.T10 : Bool × List (List Nat × List Nat) := (true, [([], []), ([], []), ([1], [1]), ([0, 2], [0, 2]), ([], []), ([], []), ([5], [5]), ([4, 6, 3], [4, 6]), ([3, 7], [3, 7]), ([0, 1, 2, 3, 4, 5, 6, 7, 8], []), ([9, 8, 7, 0, 1, 2, 3, 4, 5, 6, 7, 8], [8, 9])])
def spec_l20Deed.B10 : List Nat := [0, 0, 2, 7, 0, 0, 32, 127, 255, 511, 1023]
theorem spec_l20Deed.tab10 : rtab .any (opsOf Tryd.f27 10) = spec_l20Deed.T10 := by kernel_rfl
theorem spec_l20Deed.bits10 : waitsOk spec_l20Deed.T10.2 spec_l20Deed.B10 = true := by kernel_rfl
def spec_l20Deed.T11 : Bool × List (List Nat × List Nat) := (true, [([], []), ([0], [0]), ([], []), ([], []), ([3], [3]), ([2, 4], [2, 4]), ([1, 5, 5], [1, 5]), ([0, 1, 2, 3, 4, 5, 6], []), ([7, 6, 6, 0, 1, 2, 3, 4, 5, 6], [6, 7])])
def spec_l20Deed.B11 : List Nat := [0, 1, 0, 0, 8, 28, 63, 127, 255]
theorem spec_l20Deed.tab11 : rtab .any (opsOf Tryd.f27 11) = spec_l20Deed.T11 := by kernel_rfl
theorem spec_l20Deed.bits11 : waitsOk spec_l20Deed.T11.2 spec_l20Deed.B11 = true := by kernel_rfl
def spec_l20Deed.T14 : Bool × List (List Nat × List Nat) := (true, [([], []), ([], []), ([1], [1]), ([0, 2], [0, 2]), ([], []), ([], []), ([5], [5]), ([4, 6, 3], [4, 6]), ([3, 7], [3, 7]), ([0, 1, 2, 3, 4, 5, 6, 7, 8], []), ([9, 8, 7, 0, 1, 2, 3, 4, 5, 6, 7, 8], [8, 9])])
def spec_l20Deed.B14 : List Nat := [0, 0, 2, 7, 0, 0, 32, 127, 255, 511, 1023]
theorem spec_l20Deed.tab14 : rtab .any (opsOf Tryd.f27 14) = spec_l20Deed.T14 := by kernel_rfl
theorem spec_l20Deed.bits14 : waitsOk spec_l20Deed.T14.2 spec_l20Deed.B14 = true := by kernel_rfl
set_option maxHeartbeats 8000000 in
set_option maxRecDepth 100000 in
theorem spec_l20Deed.calls (k : Nat) (g : Nat) (s0_0 : List Int) (s0_1 : Int) (a1_0 : Int) (A1_1 : Option Addr) (c1_1 : Nat) (l1_1 : List Int) (A1_2 : Option Addr) (c1_2 : Nat) (l1_2 : List ByteArray) (r1 : Int) (r2 : Int) (r3 : Int) (r4 : ByteArray) (r5 : Int) (w0 w : World) (hI : IsS63 w0 w g s0_0 s0_1) (hB : Below w0.heap.size w0 w) (hr1_1 : Kd.C (Kd.int .i64) w A1_1 l1_1.length l1_1) (hc1_1 : l1_1.length ≤ c1_1) (hf1_1 : ∀ ad, A1_1 = some ad → 0 < l1_1.length → ad.block ≠ g) (hr1_2 : Kd.C Kd.string w A1_2 l1_2.length l1_2) (hc1_2 : l1_2.length ≤ c1_2) (hf1_2 : ∀ ad, A1_2 = some ad → 0 < l1_2.length → ad.block ≠ g) (h : spec_l20Deed.f k s0_0 s0_1 a1_0 l1_1 l1_2 = some (r1, r2, r3, r4, r5)) :
    Calls Tryd.prog 27 #[.pointer (some ⟨g, 0, none⟩), .agg #[.int .i64 a1_0, .slice A1_1 l1_1.length c1_1, .slice A1_2 l1_2.length c1_2]] w fun e w' => e = .returned (.agg #[.int .i64 r1, .int .i64 r2, .int .i64 r3, .string r4]) ∧ IsS63 w0 w' g s0_0 r5 ∧ Below w0.heap.size w0 w' ∧ KeepBut w w' g none := by
 have hu50 := Tryd.underlying50
 have hu30 := Tryd.underlying30
 have hu47 := Tryd.underlying47
 have HR1_1 := Aside0.mk hr1_1
 have HC1_1 := Aside0.mk hc1_1
 clear hr1_1 hc1_1
 have HR1_2 := Aside0.mk hr1_2
 have HC1_2 := Aside0.mk hc1_2
 clear hr1_2 hc1_2
 have HI0 := Aside0.mk hI
 have HK := Aside0.mk (KeepBut.refl w g none)
 have HL := Aside0.mk hB.size
 clear hI
 have HW0 := Aside0.mk hB.size
 have HB := Aside0.mk hB
 clear hB
 have H : ((some (([0, 1, 2, 2, 2, 2, 3, 4] : List Int) : List Int)).bind fun y362 => ((spec_l20Rd_pick.f k s0_0 s0_1 8).bind fun bt365 => (if 0 ≤ bt365.1 then (if bt365.1 < (y362.length : Int) then ((spec_l20Rd_pick.f k s0_0 bt365.2 60).bind fun bt368 => (if (wrap64 ((rd y362 bt365.1) + (wrap64 ((wrap64 (Int.tdiv bt368.1 59)) * 5)))) = 0 then ((spec_l20Rd_pick.f k s0_0 bt368.2 (wrap64 ((wrap64 (2 ^ (mn (mx a1_0 1) 6).toNat)) - 1))).bind fun bt371 => (spec_l20Deed.j0 k s0_0 bt371.2 (wrap64 ((rd y362 bt365.1) + (wrap64 ((wrap64 (Int.tdiv bt368.1 59)) * 5)))) (wrap64 (1 + bt371.1)) 0 (⟨#[]⟩ : ByteArray))) else (if (wrap64 ((rd y362 bt365.1) + (wrap64 ((wrap64 (Int.tdiv bt368.1 59)) * 5)))) = 1 then ((spec_l20Term.f k s0_0 bt368.2 a1_0 l1_1 0).bind fun bt373 => ((spec_TermText.f k a1_0 l1_1 bt373.1).bind fun t377 => (spec_l20Deed.j0 k s0_0 bt373.2 (wrap64 ((rd y362 bt365.1) + (wrap64 ((wrap64 (Int.tdiv bt368.1 59)) * 5)))) 0 0 t377))) else (if (wrap64 ((rd y362 bt365.1) + (wrap64 ((wrap64 (Int.tdiv bt368.1 59)) * 5)))) = 2 then ((spec_l20Rd_pick.f k s0_0 bt368.2 (mx (l1_2.length : Int) 1)).bind fun bt378 => ((spec_l20Rd_pick.f k s0_0 bt378.2 (wrap64 (2 ^ (mn (mx a1_0 1) 6).toNat))).bind fun bt380 => ((spec_l20Rd_pick.f k s0_0 bt380.2 (wrap64 (2 ^ (mn (mx a1_0 1) 6).toNat))).bind fun bt382 => ((spec_l20Term.f k s0_0 bt382.2 a1_0 l1_1 0).bind fun bt384 => ((spec_TermText.f k a1_0 l1_1 bt384.1).bind fun t388 => (spec_l20Deed.j0 k s0_0 bt384.2 (wrap64 ((rd y362 bt365.1) + (wrap64 ((wrap64 (Int.tdiv bt368.1 59)) * 5)))) bt378.1 (Go.bits .or .i64 bt380.1 bt382.1) t388)))))) else (if (wrap64 ((rd y362 bt365.1) + (wrap64 ((wrap64 (Int.tdiv bt368.1 59)) * 5)))) = 3 then ((spec_l20Rd_pick.f k s0_0 bt368.2 (mx (l1_2.length : Int) 1)).bind fun bt389 => ((spec_l20Rd_pick.f k s0_0 bt389.2 (wrap64 (2 ^ (mn (mx a1_0 1) 6).toNat))).bind fun bt391 => ((spec_l20Rd_pick.f k s0_0 bt391.2 (wrap64 (2 ^ (mn (mx a1_0 1) 6).toNat))).bind fun bt393 => (spec_l20Deed.j0 k s0_0 bt393.2 (wrap64 ((rd y362 bt365.1) + (wrap64 ((wrap64 (Int.tdiv bt368.1 59)) * 5)))) bt389.1 (Go.bits .or .i64 bt391.1 bt393.1) (⟨#[]⟩ : ByteArray))))) else (spec_l20Deed.j0 k s0_0 bt368.2 (wrap64 ((rd y362 bt365.1) + (wrap64 ((wrap64 (Int.tdiv bt368.1 59)) * 5)))) 0 0 (⟨#[]⟩ : ByteArray))))))) else (none)) else (none)))) = some (r1, r2, r3, r4, r5) := h
 clear h
 obtain ⟨y362, hy362⟩ : ∃ y_ : List Int, y_ = (([0, 1, 2, 2, 2, 2, 3, 4] : List Int)) := ⟨_, rfl⟩
 replace H : ((spec_l20Rd_pick.f k s0_0 s0_1 8).bind fun bt365 => (if 0 ≤ bt365.1 then (if bt365.1 < (y362.length : Int) then ((spec_l20Rd_pick.f k s0_0 bt365.2 60).bind fun bt368 => (if (wrap64 ((rd y362 bt365.1) + (wrap64 ((wrap64 (Int.tdiv bt368.1 59)) * 5)))) = 0 then ((spec_l20Rd_pick.f k s0_0 bt368.2 (wrap64 ((wrap64 (2 ^ (mn (mx a1_0 1) 6).toNat)) - 1))).bind fun bt371 => (spec_l20Deed.j0 k s0_0 bt371.2 (wrap64 ((rd y362 bt365.1) + (wrap64 ((wrap64 (Int.tdiv bt368.1 59)) * 5)))) (wrap64 (1 + bt371.1)) 0 (⟨#[]⟩ : ByteArray))) else (if (wrap64 ((rd y362 bt365.1) + (wrap64 ((wrap64 (Int.tdiv bt368.1 59)) * 5)))) = 1 then ((spec_l20Term.f k s0_0 bt368.2 a1_0 l1_1 0).bind fun bt373 => ((spec_TermText.f k a1_0 l1_1 bt373.1).bind fun t377 => (spec_l20Deed.j0 k s0_0 bt373.2 (wrap64 ((rd y362 bt365.1) + (wrap64 ((wrap64 (Int.tdiv bt368.1 59)) * 5)))) 0 0 t377))) else (if (wrap64 ((rd y362 bt365.1) + (wrap64 ((wrap64 (Int.tdiv bt368.1 59)) * 5)))) = 2 then ((spec_l20Rd_pick.f k s0_0 bt368.2 (mx (l1_2.length : Int) 1)).bind fun bt378 => ((spec_l20Rd_pick.f k s0_0 bt378.2 (wrap64 (2 ^ (mn (mx a1_0 1) 6).toNat))).bind fun bt380 => ((spec_l20Rd_pick.f k s0_0 bt380.2 (wrap64 (2 ^ (mn (mx a1_0 1) 6).toNat))).bind fun bt382 => ((spec_l20Term.f k s0_0 bt382.2 a1_0 l1_1 0).bind fun bt384 => ((spec_TermText.f k a1_0 l1_1 bt384.1).bind fun t388 => (spec_l20Deed.j0 k s0_0 bt384.2 (wrap64 ((rd y362 bt365.1) + (wrap64 ((wrap64 (Int.tdiv bt368.1 59)) * 5)))) bt378.1 (Go.bits .or .i64 bt380.1 bt382.1) t388)))))) else (if (wrap64 ((rd y362 bt365.1) + (wrap64 ((wrap64 (Int.tdiv bt368.1 59)) * 5)))) = 3 then ((spec_l20Rd_pick.f k s0_0 bt368.2 (mx (l1_2.length : Int) 1)).bind fun bt389 => ((spec_l20Rd_pick.f k s0_0 bt389.2 (wrap64 (2 ^ (mn (mx a1_0 1) 6).toNat))).bind fun bt391 => ((spec_l20Rd_pick.f k s0_0 bt391.2 (wrap64 (2 ^ (mn (mx a1_0 1) 6).toNat))).bind fun bt393 => (spec_l20Deed.j0 k s0_0 bt393.2 (wrap64 ((rd y362 bt365.1) + (wrap64 ((wrap64 (Int.tdiv bt368.1 59)) * 5)))) bt389.1 (Go.bits .or .i64 bt391.1 bt393.1) (⟨#[]⟩ : ByteArray))))) else (spec_l20Deed.j0 k s0_0 bt368.2 (wrap64 ((rd y362 bt365.1) + (wrap64 ((wrap64 (Int.tdiv bt368.1 59)) * 5)))) 0 0 (⟨#[]⟩ : ByteArray))))))) else (none)) else (none))) = some (r1, r2, r3, r4, r5) := by first | (rw [hy362]; with_reducible exact H) | (have H2_ := (Option.bind_some _ _).symm.trans H; rw [hy362]; with_reducible exact H2_) | (have H2_ := (Option.bind_some _ _).symm.trans H; with_reducible exact H2_) | with_reducible exact H | (rw [hy362]; exact H) | exact H
 have Ny362 := Aside0.mk hy362
 clear hy362
 replace H := Option.bind_eq_some_iff.mp H
 obtain ⟨⟨t365, t366⟩, A30, H⟩ := H
 try dsimp only at H
 have A3 := Aside0.mk A30
 clear A30
 by_cases c4 : 0 ≤ t365
 {
 rw [if_pos c4] at H
 have c4b0 : decide (0 ≤ t365) = true := decide_eq_true c4
 clear c4
 by_cases c5 : t365 < (y362.length : Int)
 {
 rw [if_pos c5] at H
 have c5b0 : decide (t365 < (y362.length : Int)) = true := decide_eq_true c5
 clear c5
 replace H := Option.bind_eq_some_iff.mp H
 obtain ⟨⟨t368, t369⟩, A60, H⟩ := H
 try dsimp only at H
 have A6 := Aside0.mk A60
 clear A60
 obtain ⟨ji7, hji7⟩ : ∃ j_ : Int, (mx a1_0 1) = j_ := ⟨_, rfl⟩
 replace H : (if (wrap64 ((rd y362 t365) + (wrap64 ((wrap64 (Int.tdiv t368 59)) * 5)))) = 0 then ((spec_l20Rd_pick.f k s0_0 t369 (wrap64 ((wrap64 (2 ^ (mn (ji7) 6).toNat)) - 1))).bind fun bt371 => (spec_l20Deed.j0 k s0_0 bt371.2 (wrap64 ((rd y362 t365) + (wrap64 ((wrap64 (Int.tdiv t368 59)) * 5)))) (wrap64 (1 + bt371.1)) 0 (⟨#[]⟩ : ByteArray))) else (if (wrap64 ((rd y362 t365) + (wrap64 ((wrap64 (Int.tdiv t368 59)) * 5)))) = 1 then ((spec_l20Term.f k s0_0 t369 a1_0 l1_1 0).bind fun bt373 => ((spec_TermText.f k a1_0 l1_1 bt373.1).bind fun t377 => (spec_l20Deed.j0 k s0_0 bt373.2 (wrap64 ((rd y362 t365) + (wrap64 ((wrap64 (Int.tdiv t368 59)) * 5)))) 0 0 t377))) else (if (wrap64 ((rd y362 t365) + (wrap64 ((wrap64 (Int.tdiv t368 59)) * 5)))) = 2 then ((spec_l20Rd_pick.f k s0_0 t369 (mx (l1_2.length : Int) 1)).bind fun bt378 => ((spec_l20Rd_pick.f k s0_0 bt378.2 (wrap64 (2 ^ (mn (ji7) 6).toNat))).bind fun bt380 => ((spec_l20Rd_pick.f k s0_0 bt380.2 (wrap64 (2 ^ (mn (ji7) 6).toNat))).bind fun bt382 => ((spec_l20Term.f k s0_0 bt382.2 a1_0 l1_1 0).bind fun bt384 => ((spec_TermText.f k a1_0 l1_1 bt384.1).bind fun t388 => (spec_l20Deed.j0 k s0_0 bt384.2 (wrap64 ((rd y362 t365) + (wrap64 ((wrap64 (Int.tdiv t368 59)) * 5)))) bt378.1 (Go.bits .or .i64 bt380.1 bt382.1) t388)))))) else (if (wrap64 ((rd y362 t365) + (wrap64 ((wrap64 (Int.tdiv t368 59)) * 5)))) = 3 then ((spec_l20Rd_pick.f k s0_0 t369 (mx (l1_2.length : Int) 1)).bind fun bt389 => ((spec_l20Rd_pick.f k s0_0 bt389.2 (wrap64 (2 ^ (mn (ji7) 6).toNat))).bind fun bt391 => ((spec_l20Rd_pick.f k s0_0 bt391.2 (wrap64 (2 ^ (mn (ji7) 6).toNat))).bind fun bt393 => (spec_l20Deed.j0 k s0_0 bt393.2 (wrap64 ((rd y362 t365) + (wrap64 ((wrap64 (Int.tdiv t368 59)) * 5)))) bt389.1 (Go.bits .or .i64 bt391.1 bt393.1) (⟨#[]⟩ : ByteArray))))) else (spec_l20Deed.j0 k s0_0 t369 (wrap64 ((rd y362 t365) + (wrap64 ((wrap64 (Int.tdiv t368 59)) * 5)))) 0 0 (⟨#[]⟩ : ByteArray)))))) = some (r1, r2, r3, r4, r5) := by first | (rw [hji7] at H; exact H) | (simp only [hji7] at H ⊢; exact H)
 (try rw [hji7] at A3)
 (try rw [hji7] at A6)
 (try (have hji7l : 1 ≤ ji7 := by (rw [← hji7]; unfold mx; (repeat' split) <;> omega)))
 (try (have hji7m : 0 ≤ ji7 := by omega))
 have hji7_ : (if a1_0 < 1 then 1 else a1_0) = ji7 := hji7
 obtain ⟨ji8, hji8⟩ : ∃ j_ : Int, (mn (ji7) 6) = j_ := ⟨_, rfl⟩
 replace H : (if (wrap64 ((rd y362 t365) + (wrap64 ((wrap64 (Int.tdiv t368 59)) * 5)))) = 0 then ((spec_l20Rd_pick.f k s0_0 t369 (wrap64 ((wrap64 (2 ^ (ji8).toNat)) - 1))).bind fun bt371 => (spec_l20Deed.j0 k s0_0 bt371.2 (wrap64 ((rd y362 t365) + (wrap64 ((wrap64 (Int.tdiv t368 59)) * 5)))) (wrap64 (1 + bt371.1)) 0 (⟨#[]⟩ : ByteArray))) else (if (wrap64 ((rd y362 t365) + (wrap64 ((wrap64 (Int.tdiv t368 59)) * 5)))) = 1 then ((spec_l20Term.f k s0_0 t369 a1_0 l1_1 0).bind fun bt373 => ((spec_TermText.f k a1_0 l1_1 bt373.1).bind fun t377 => (spec_l20Deed.j0 k s0_0 bt373.2 (wrap64 ((rd y362 t365) + (wrap64 ((wrap64 (Int.tdiv t368 59)) * 5)))) 0 0 t377))) else (if (wrap64 ((rd y362 t365) + (wrap64 ((wrap64 (Int.tdiv t368 59)) * 5)))) = 2 then ((spec_l20Rd_pick.f k s0_0 t369 (mx (l1_2.length : Int) 1)).bind fun bt378 => ((spec_l20Rd_pick.f k s0_0 bt378.2 (wrap64 (2 ^ (ji8).toNat))).bind fun bt380 => ((spec_l20Rd_pick.f k s0_0 bt380.2 (wrap64 (2 ^ (ji8).toNat))).bind fun bt382 => ((spec_l20Term.f k s0_0 bt382.2 a1_0 l1_1 0).bind fun bt384 => ((spec_TermText.f k a1_0 l1_1 bt384.1).bind fun t388 => (spec_l20Deed.j0 k s0_0 bt384.2 (wrap64 ((rd y362 t365) + (wrap64 ((wrap64 (Int.tdiv t368 59)) * 5)))) bt378.1 (Go.bits .or .i64 bt380.1 bt382.1) t388)))))) else (if (wrap64 ((rd y362 t365) + (wrap64 ((wrap64 (Int.tdiv t368 59)) * 5)))) = 3 then ((spec_l20Rd_pick.f k s0_0 t369 (mx (l1_2.length : Int) 1)).bind fun bt389 => ((spec_l20Rd_pick.f k s0_0 bt389.2 (wrap64 (2 ^ (ji8).toNat))).bind fun bt391 => ((spec_l20Rd_pick.f k s0_0 bt391.2 (wrap64 (2 ^ (ji8).toNat))).bind fun bt393 => (spec_l20Deed.j0 k s0_0 bt393.2 (wrap64 ((rd y362 t365) + (wrap64 ((wrap64 (Int.tdiv t368 59)) * 5)))) bt389.1 (Go.bits .or .i64 bt391.1 bt393.1) (⟨#[]⟩ : ByteArray))))) else (spec_l20Deed.j0 k s0_0 t369 (wrap64 ((rd y362 t365) + (wrap64 ((wrap64 (Int.tdiv t368 59)) * 5)))) 0 0 (⟨#[]⟩ : ByteArray)))))) = some (r1, r2, r3, r4, r5) := by first | (rw [hji8] at H; exact H) | (simp only [hji8] at H ⊢; exact H)
 (try rw [hji8] at A3)
 (try rw [hji8] at A6)
 have hji8_ : (if 6 < (ji7) then 6 else (ji7)) = ji8 := hji8
 have HC9 := Aside0.mk H
 clear H
 go_enter Tryd.func27, Tryd.ntmps27
 try go_wp2_with (first | ((with_reducible refine gate_dst (N := 3) rfl ?_); refine box_event ?hg (N := 3) ?hd (cs := #[.int .i64 a1_0, .slice A1_1 l1_1.length c1_1, .slice A1_2 l1_2.length c1_2]) (t := 50) ?hr ?_; (case hd => rfl); (case hg => rfl); (case hr => exact zcj_12); intro gb360 hg w10 hbox hb; have n0_ := Aside0.mk (IsS63.below zcj_25 hb); have n1_ := Aside0.mk (KeepBut.trans zcj_17 (KeepBut.of_below hb g none) (.inl rfl)); have n2_ := Aside0.mk (below_step zcj_26 hb); have n3_ := Aside0.mk (hbox); have n4_ := Aside0.mk ((zcj_46 : w.heap.size ≤ gb360)); have n5_ := Aside0.mk ((Nat.le_trans HW0.out (zcj_46 : w.heap.size ≤ gb360) : w0.heap.size ≤ gb360)); have n6_ := Aside0.mk ((zcj_84 : g ≠ gb360)); have n7_ := Aside0.mk ((zcj_85 : gb360 ≠ g)); clear HI0; clear HK; clear HB; have HI0 := n0_; have HK := n1_; have HB := n2_; have BK360 := n3_; have GW360 := n4_; have GE360 := n5_; have NB0_360 := n6_; have NB360_0 := n7_; clear n0_ n1_ n2_ n3_ n4_ n5_ n6_ n7_; clear hb hbox hg) | ((with_reducible refine gate_dst (N := 4) rfl ?_); refine box_event ?hg (N := 4) ?hd (cs := #[.int .i64 0, .int .i64 0, .int .i64 0, .string (⟨#[]⟩ : ByteArray)]) (t := 30) ?hr ?_; (case hd => rfl); (case hg => rfl); (case hr => exact zcj_12); intro gb361 hg w11 hbox hb; have n0_ := Aside0.mk (IsS63.below (by repeat (first | (with_reducible first | exact HI0.out | apply IsS63.alloc | apply IsS63.drewN | apply IsS63.drew | apply IsS63.set_1 | refine IsS63.far ?_ NB0_360.out _) | exact HI0.out)) hb); have n1_ := Aside0.mk (blk_below (g := gb360) (o := .cells #[.int .i64 a1_0, .slice A1_1 l1_1.length c1_1, .slice A1_2 l1_2.length c1_2] 50 (0, 0)) zcj_6 hb); have n2_ := Aside0.mk (KeepBut.trans zcj_114 (KeepBut.of_below hb g none) (.inl rfl)); have n3_ := Aside0.mk (below_step (by repeat (first | (with_reducible first | exact HB.out | apply below_alloc | apply pw_below_drewN | apply below_drew1 | refine below_set ?_ (IsS63.ge HI0.out) | refine below_set ?_ GE360.out) | exact HB.out)) hb); have n4_ := Aside0.mk (hbox); have n5_ := Aside0.mk ((zcj_152 : w.heap.size ≤ gb361)); have n6_ := Aside0.mk ((Nat.le_trans HW0.out (zcj_152 : w.heap.size ≤ gb361) : w0.heap.size ≤ gb361)); have n7_ := Aside0.mk ((zcj_60 : gb360 ≠ gb361)); have n8_ := Aside0.mk ((zcj_61 : gb361 ≠ gb360)); have n9_ := Aside0.mk ((by rw [hg]; exact Nat.ne_of_lt (IsS63.lt (show IsS63 w0 _ g s0_0 s0_1 from by repeat (first | (with_reducible first | exact HI0.out | apply IsS63.alloc | apply IsS63.drewN | apply IsS63.drew | apply IsS63.set_1 | refine IsS63.far ?_ NB0_360.out _) | exact HI0.out))) : g ≠ gb361)); have n10_ := Aside0.mk ((by rw [hg]; exact Nat.ne_of_gt (IsS63.lt (show IsS63 w0 _ g s0_0 s0_1 from by repeat (first | (with_reducible first | exact HI0.out | apply IsS63.alloc | apply IsS63.drewN | apply IsS63.drew | apply IsS63.set_1 | refine IsS63.far ?_ NB0_360.out _) | exact HI0.out))) : gb361 ≠ g)); clear HI0; clear BK360; clear HK; clear HB; have HI0 := n0_; have BK360 := n1_; have HK := n2_; have HB := n3_; have BK361 := n4_; have GW361 := n5_; have GE361 := n6_; have NB360_361 := n7_; have NB361_360 := n8_; have NB0_361 := n9_; have NB361_0 := n10_; clear n0_ n1_ n2_ n3_ n4_ n5_ n6_ n7_ n8_ n9_ n10_; clear hb hbox hg))
 have pi367 : (0 ≤ (t365 : Int)) = True := eq_true (of_decide_eq_true zcj_2)
 have qi367 : (t365 < (y362.length : Int)) = True := eq_true (of_decide_eq_true zcj_2)
 have n0_ := Aside0.mk (blk_drew BK360.out)
 have n1_ := Aside0.mk (blk_drew BK361.out)
 have n2_ := Aside0.mk (IsS63.drew HI0.out)
 have n3_ := Aside0.mk (keep_drew HK.out)
 have n4_ := Aside0.mk (below_drew1 HB.out)
 clear BK360
 clear BK361
 clear HI0
 clear HK
 clear HB
 have BK360 := n0_
 have BK361 := n1_
 have HI0 := n2_
 have HK := n3_
 have HB := n4_
 clear n0_ n1_ n2_ n3_ n4_
 refine start_ (n := 13) (S := fun w' => True) (ds := []) #[false, false, false, false, false, false, false, false, false, false, false, false, false] (by kernel_rfl) rfl rfl trivial (fun hHeld => ?_); refine with_tabW spec_l20Deed.tab1 spec_l20Deed.bits1 (fun HT_ HW_ => ?_)
 generalize w11.drew = w12 at BK360 BK361 HI0 HK HB hHeld ⊢
 refine pure_ (i := 1) (N := some 8) (v := ?_) (a' := ?_) #[false, true, false, false, false, false, false, false, false, false, false, false, false] rfl rfl (any_of HT_.out (by kernel_rfl)) (fun _ _ _ h => h) (Or.inl ⟨by rfl, ?_⟩) ?_ ?_
 rotate_left
 {
 intro w'
 go_simp
 with_reducible rfl
 }
 rotate_left
 {exact zcj_1}
 refine pure_ (i := 5) (N := some 12) (v := ?_) (a' := ?_) #[false, true, false, false, false, true, false, false, false, false, false, false, false] rfl rfl (any_of HT_.out (by kernel_rfl)) (fun _ _ _ h => h) (Or.inl ⟨by rfl, ?_⟩) ?_ ?_
 rotate_left
 {
 intro w'
 go_simp
 with_reducible rfl
 }
 rotate_left
 {exact zcj_1}
 refine join_ (σ := Value × Addr × Nat) 1 #[true, true, true, true, true, true, true, true, true, true, true, true, false] (fun s_ => [(7, s_.1), (9, .int .i64 t365), (11, .int .i64 (rd y362 t365)), (13, .int .i64 t368), (5, .pointer (some ⟨s_.2.2, 0, none⟩)), (10, .pointer (some (s_.2.1.add (t365).toNat))), (14, .int .i64 (wrap64 (Int.tdiv t368 59))), (15, .int .i64 (wrap64 ((wrap64 (Int.tdiv t368 59)) * 5))), (16, .int .i64 (wrap64 ((rd y362 t365) + (wrap64 ((wrap64 (Int.tdiv t368 59)) * 5))))), (17, .agg #[.int .i64 (wrap64 ((rd y362 t365) + (wrap64 ((wrap64 (Int.tdiv t368 59)) * 5)))), .int .i64 0, .int .i64 0, .string (⟨#[]⟩ : ByteArray)])]) (fun s_ w' => (Kd.R (Kd.int .i64) 3 w' w.heap.size (fun _ => True) s_.1 y362) ∧ (∃ c_, (s_.1 : Value) = .slice (some s_.2.1) y362.length c_) ∧ (w'.heap[gb360]? = some (.cells #[.int .i64 a1_0, .slice A1_1 l1_1.length c1_1, .slice A1_2 l1_2.length c1_2] 50 (0, 0))) ∧ (w'.heap[gb361]? = some (.cells #[.int .i64 0, .int .i64 0, .int .i64 0, .string (⟨#[]⟩ : ByteArray)] 30 (0, 0))) ∧ (w'.heap[s_.2.2]? = some (.cells #[.int .i64 0, .int .i64 0, .int .i64 0, .string (⟨#[]⟩ : ByteArray)] 30 (0, 0))) ∧ (w.heap.size ≤ s_.2.2) ∧ (w0.heap.size ≤ s_.2.2) ∧ (g ≠ s_.2.2) ∧ (s_.2.2 ≠ g) ∧ (gb360 ≠ s_.2.2) ∧ (s_.2.2 ≠ gb360) ∧ (gb361 ≠ s_.2.2) ∧ (s_.2.2 ≠ gb361) ∧ (IsS63 w0 w' g s0_0 t369) ∧ (KeepBut w w' g none) ∧ (Below w0.heap.size w0 w')) ?_ ?_
 rotate_left
 {
 intro hJ0_2_4_6_11
 refine join_ (σ := Value × Addr) 2 #[true, true, true, true, true, true, true, true, true, true, true, false, false] (fun s_ => [(7, s_.1), (9, .int .i64 t365), (11, .int .i64 (rd y362 t365)), (13, .int .i64 t368), (10, .pointer (some (s_.2.add (t365).toNat))), (14, .int .i64 (wrap64 (Int.tdiv t368 59))), (15, .int .i64 (wrap64 ((wrap64 (Int.tdiv t368 59)) * 5))), (16, .int .i64 (wrap64 ((rd y362 t365) + (wrap64 ((wrap64 (Int.tdiv t368 59)) * 5))))), (17, .agg #[.int .i64 (wrap64 ((rd y362 t365) + (wrap64 ((wrap64 (Int.tdiv t368 59)) * 5)))), .int .i64 0, .int .i64 0, .string (⟨#[]⟩ : ByteArray)])]) (fun s_ w' => (Kd.R (Kd.int .i64) 3 w' w.heap.size (fun _ => True) s_.1 y362) ∧ (∃ c_, (s_.1 : Value) = .slice (some s_.2) y362.length c_) ∧ (w'.heap[gb360]? = some (.cells #[.int .i64 a1_0, .slice A1_1 l1_1.length c1_1, .slice A1_2 l1_2.length c1_2] 50 (0, 0))) ∧ (w'.heap[gb361]? = some (.cells #[.int .i64 0, .int .i64 0, .int .i64 0, .string (⟨#[]⟩ : ByteArray)] 30 (0, 0))) ∧ (IsS63 w0 w' g s0_0 t369) ∧ (KeepBut w w' g none) ∧ (Below w0.heap.size w0 w')) ?_ ?_
 rotate_left
 {
 intro hJ0_2_4_6
 refine join_ (σ := Value × Addr × Nat) 6 #[true, true, true, true, true, true, false, false, false, false, false, true, false] (fun s_ => [(7, s_.1), (9, .int .i64 t365), (11, .int .i64 (rd y362 t365)), (5, .pointer (some ⟨s_.2.2, 0, none⟩)), (10, .pointer (some (s_.2.1.add (t365).toNat)))]) (fun s_ w' => (Kd.R (Kd.int .i64) 3 w' w.heap.size (fun _ => True) s_.1 y362) ∧ (∃ c_, (s_.1 : Value) = .slice (some s_.2.1) y362.length c_) ∧ (w'.heap[gb360]? = some (.cells #[.int .i64 a1_0, .slice A1_1 l1_1.length c1_1, .slice A1_2 l1_2.length c1_2] 50 (0, 0))) ∧ (w'.heap[gb361]? = some (.cells #[.int .i64 0, .int .i64 0, .int .i64 0, .string (⟨#[]⟩ : ByteArray)] 30 (0, 0))) ∧ (w'.heap[s_.2.2]? = some (.cells #[.int .i64 0, .int .i64 0, .int .i64 0, .string (⟨#[]⟩ : ByteArray)] 30 (0, 0))) ∧ (w.heap.size ≤ s_.2.2) ∧ (w0.heap.size ≤ s_.2.2) ∧ (g ≠ s_.2.2) ∧ (s_.2.2 ≠ g) ∧ (gb360 ≠ s_.2.2) ∧ (s_.2.2 ≠ gb360) ∧ (gb361 ≠ s_.2.2) ∧ (s_.2.2 ≠ gb361) ∧ (IsS63 w0 w' g s0_0 t366) ∧ (KeepBut w w' g none) ∧ (Below w0.heap.size w0 w')) ?_ ?_
 rotate_left
 {
 intro hJ0_2_4_11
 refine join_ (σ := Value × Addr × Nat) 4 #[true, true, true, true, false, true, true, true, true, false, false, true, false] (fun s_ => [(7, s_.1), (9, .int .i64 t365), (13, .int .i64 t368), (5, .pointer (some ⟨s_.2.2, 0, none⟩)), (10, .pointer (some (s_.2.1.add (t365).toNat))), (14, .int .i64 (wrap64 (Int.tdiv t368 59))), (15, .int .i64 (wrap64 ((wrap64 (Int.tdiv t368 59)) * 5)))]) (fun s_ w' => (Kd.R (Kd.int .i64) 3 w' w.heap.size (fun _ => True) s_.1 y362) ∧ (∃ c_, (s_.1 : Value) = .slice (some s_.2.1) y362.length c_) ∧ (w'.heap[gb360]? = some (.cells #[.int .i64 a1_0, .slice A1_1 l1_1.length c1_1, .slice A1_2 l1_2.length c1_2] 50 (0, 0))) ∧ (w'.heap[gb361]? = some (.cells #[.int .i64 0, .int .i64 0, .int .i64 0, .string (⟨#[]⟩ : ByteArray)] 30 (0, 0))) ∧ (w'.heap[s_.2.2]? = some (.cells #[.int .i64 0, .int .i64 0, .int .i64 0, .string (⟨#[]⟩ : ByteArray)] 30 (0, 0))) ∧ (w.heap.size ≤ s_.2.2) ∧ (w0.heap.size ≤ s_.2.2) ∧ (g ≠ s_.2.2) ∧ (s_.2.2 ≠ g) ∧ (gb360 ≠ s_.2.2) ∧ (s_.2.2 ≠ gb360) ∧ (gb361 ≠ s_.2.2) ∧ (s_.2.2 ≠ gb361) ∧ (IsS63 w0 w' g s0_0 t369) ∧ (KeepBut w w' g none) ∧ (Below w0.heap.size w0 w')) ?_ ?_
 rotate_left
 {
 intro hJ0_2_6_11
 refine join_ (σ := Value × Addr) 7 #[true, true, true, true, true, true, false, false, false, false, false, false, false] (fun s_ => [(7, s_.1), (9, .int .i64 t365), (11, .int .i64 (rd y362 t365)), (10, .pointer (some (s_.2.add (t365).toNat)))]) (fun s_ w' => (Kd.R (Kd.int .i64) 3 w' w.heap.size (fun _ => True) s_.1 y362) ∧ (∃ c_, (s_.1 : Value) = .slice (some s_.2) y362.length c_) ∧ (w'.heap[gb360]? = some (.cells #[.int .i64 a1_0, .slice A1_1 l1_1.length c1_1, .slice A1_2 l1_2.length c1_2] 50 (0, 0))) ∧ (w'.heap[gb361]? = some (.cells #[.int .i64 0, .int .i64 0, .int .i64 0, .string (⟨#[]⟩ : ByteArray)] 30 (0, 0))) ∧ (IsS63 w0 w' g s0_0 t366) ∧ (KeepBut w w' g none) ∧ (Below w0.heap.size w0 w')) ?_ ?_
 rotate_left
 {
 intro hJ0_2_4
 refine join_ (σ := Value × Addr) 5 #[true, true, true, true, false, true, true, true, true, false, false, false, false] (fun s_ => [(7, s_.1), (9, .int .i64 t365), (13, .int .i64 t368), (10, .pointer (some (s_.2.add (t365).toNat))), (14, .int .i64 (wrap64 (Int.tdiv t368 59))), (15, .int .i64 (wrap64 ((wrap64 (Int.tdiv t368 59)) * 5)))]) (fun s_ w' => (Kd.R (Kd.int .i64) 3 w' w.heap.size (fun _ => True) s_.1 y362) ∧ (∃ c_, (s_.1 : Value) = .slice (some s_.2) y362.length c_) ∧ (w'.heap[gb360]? = some (.cells #[.int .i64 a1_0, .slice A1_1 l1_1.length c1_1, .slice A1_2 l1_2.length c1_2] 50 (0, 0))) ∧ (w'.heap[gb361]? = some (.cells #[.int .i64 0, .int .i64 0, .int .i64 0, .string (⟨#[]⟩ : ByteArray)] 30 (0, 0))) ∧ (IsS63 w0 w' g s0_0 t369) ∧ (KeepBut w w' g none) ∧ (Below w0.heap.size w0 w')) ?_ ?_
 rotate_left
 {
 intro hJ0_2_6
 refine join_ (σ := Value × Addr × Nat) 7 #[true, true, true, true, false, true, false, false, false, false, false, true, false] (fun s_ => [(7, s_.1), (9, .int .i64 t365), (5, .pointer (some ⟨s_.2.2, 0, none⟩)), (10, .pointer (some (s_.2.1.add (t365).toNat)))]) (fun s_ w' => (Kd.R (Kd.int .i64) 3 w' w.heap.size (fun _ => True) s_.1 y362) ∧ (∃ c_, (s_.1 : Value) = .slice (some s_.2.1) y362.length c_) ∧ (w'.heap[gb360]? = some (.cells #[.int .i64 a1_0, .slice A1_1 l1_1.length c1_1, .slice A1_2 l1_2.length c1_2] 50 (0, 0))) ∧ (w'.heap[gb361]? = some (.cells #[.int .i64 0, .int .i64 0, .int .i64 0, .string (⟨#[]⟩ : ByteArray)] 30 (0, 0))) ∧ (w'.heap[s_.2.2]? = some (.cells #[.int .i64 0, .int .i64 0, .int .i64 0, .string (⟨#[]⟩ : ByteArray)] 30 (0, 0))) ∧ (w.heap.size ≤ s_.2.2) ∧ (w0.heap.size ≤ s_.2.2) ∧ (g ≠ s_.2.2) ∧ (s_.2.2 ≠ g) ∧ (gb360 ≠ s_.2.2) ∧ (s_.2.2 ≠ gb360) ∧ (gb361 ≠ s_.2.2) ∧ (s_.2.2 ≠ gb361) ∧ (IsS63 w0 w' g s0_0 t366) ∧ (KeepBut w w' g none) ∧ (Below w0.heap.size w0 w')) ?_ ?_
 rotate_left
 {
 intro hJ0_2_11
 refine join_ (σ := Nat) 6 #[false, true, true, false, false, true, true, true, true, false, false, true, false] (fun s_ => [(9, .int .i64 t365), (13, .int .i64 t368), (5, .pointer (some ⟨s_, 0, none⟩)), (14, .int .i64 (wrap64 (Int.tdiv t368 59))), (15, .int .i64 (wrap64 ((wrap64 (Int.tdiv t368 59)) * 5)))]) (fun s_ w' => (w'.heap[gb360]? = some (.cells #[.int .i64 a1_0, .slice A1_1 l1_1.length c1_1, .slice A1_2 l1_2.length c1_2] 50 (0, 0))) ∧ (w'.heap[gb361]? = some (.cells #[.int .i64 0, .int .i64 0, .int .i64 0, .string (⟨#[]⟩ : ByteArray)] 30 (0, 0))) ∧ (w'.heap[s_]? = some (.cells #[.int .i64 0, .int .i64 0, .int .i64 0, .string (⟨#[]⟩ : ByteArray)] 30 (0, 0))) ∧ (w.heap.size ≤ s_) ∧ (w0.heap.size ≤ s_) ∧ (g ≠ s_) ∧ (s_ ≠ g) ∧ (gb360 ≠ s_) ∧ (s_ ≠ gb360) ∧ (gb361 ≠ s_) ∧ (s_ ≠ gb361) ∧ (IsS63 w0 w' g s0_0 t369) ∧ (KeepBut w w' g none) ∧ (Below w0.heap.size w0 w')) ?_ ?_
 rotate_left
 {
 intro hJ2_6_11
 refine join_ (σ := Value × Addr) 8 #[true, true, true, true, false, true, false, false, false, false, false, false, false] (fun s_ => [(7, s_.1), (9, .int .i64 t365), (10, .pointer (some (s_.2.add (t365).toNat)))]) (fun s_ w' => (Kd.R (Kd.int .i64) 3 w' w.heap.size (fun _ => True) s_.1 y362) ∧ (∃ c_, (s_.1 : Value) = .slice (some s_.2) y362.length c_) ∧ (w'.heap[gb360]? = some (.cells #[.int .i64 a1_0, .slice A1_1 l1_1.length c1_1, .slice A1_2 l1_2.length c1_2] 50 (0, 0))) ∧ (w'.heap[gb361]? = some (.cells #[.int .i64 0, .int .i64 0, .int .i64 0, .string (⟨#[]⟩ : ByteArray)] 30 (0, 0))) ∧ (IsS63 w0 w' g s0_0 t366) ∧ (KeepBut w w' g none) ∧ (Below w0.heap.size w0 w')) ?_ ?_
 rotate_left
 {
 intro hJ0_2
 refine join_ (σ := Value × Addr × Nat) 9 #[true, true, false, false, false, true, false, false, false, false, false, true, false] (fun s_ => [(7, s_.1), (5, .pointer (some ⟨s_.2.2, 0, none⟩))]) (fun s_ w' => (Kd.R (Kd.int .i64) 3 w' w.heap.size (fun _ => True) s_.1 y362) ∧ (∃ c_, (s_.1 : Value) = .slice (some s_.2.1) y362.length c_) ∧ (w'.heap[gb360]? = some (.cells #[.int .i64 a1_0, .slice A1_1 l1_1.length c1_1, .slice A1_2 l1_2.length c1_2] 50 (0, 0))) ∧ (w'.heap[gb361]? = some (.cells #[.int .i64 0, .int .i64 0, .int .i64 0, .string (⟨#[]⟩ : ByteArray)] 30 (0, 0))) ∧ (w'.heap[s_.2.2]? = some (.cells #[.int .i64 0, .int .i64 0, .int .i64 0, .string (⟨#[]⟩ : ByteArray)] 30 (0, 0))) ∧ (w.heap.size ≤ s_.2.2) ∧ (w0.heap.size ≤ s_.2.2) ∧ (g ≠ s_.2.2) ∧ (s_.2.2 ≠ g) ∧ (gb360 ≠ s_.2.2) ∧ (s_.2.2 ≠ gb360) ∧ (gb361 ≠ s_.2.2) ∧ (s_.2.2 ≠ gb361) ∧ (IsS63 w0 w' g s0_0 s0_1) ∧ (KeepBut w w' g none) ∧ (Below w0.heap.size w0 w')) ?_ ?_
 rotate_left
 {
 intro hJ0_11
 refine join_ (σ := Unit) 7 #[false, true, true, false, false, true, true, true, true, false, false, false, false] (fun s_ => [(9, .int .i64 t365), (13, .int .i64 t368), (14, .int .i64 (wrap64 (Int.tdiv t368 59))), (15, .int .i64 (wrap64 ((wrap64 (Int.tdiv t368 59)) * 5)))]) (fun s_ w' => (w'.heap[gb360]? = some (.cells #[.int .i64 a1_0, .slice A1_1 l1_1.length c1_1, .slice A1_2 l1_2.length c1_2] 50 (0, 0))) ∧ (w'.heap[gb361]? = some (.cells #[.int .i64 0, .int .i64 0, .int .i64 0, .string (⟨#[]⟩ : ByteArray)] 30 (0, 0))) ∧ (IsS63 w0 w' g s0_0 t369) ∧ (KeepBut w w' g none) ∧ (Below w0.heap.size w0 w')) ?_ ?_
 rotate_left
 {
 intro hJ2_6
 refine join_ (σ := Nat) 9 #[false, true, true, false, false, true, false, false, false, false, false, true, false] (fun s_ => [(9, .int .i64 t365), (5, .pointer (some ⟨s_, 0, none⟩))]) (fun s_ w' => (w'.heap[gb360]? = some (.cells #[.int .i64 a1_0, .slice A1_1 l1_1.length c1_1, .slice A1_2 l1_2.length c1_2] 50 (0, 0))) ∧ (w'.heap[gb361]? = some (.cells #[.int .i64 0, .int .i64 0, .int .i64 0, .string (⟨#[]⟩ : ByteArray)] 30 (0, 0))) ∧ (w'.heap[s_]? = some (.cells #[.int .i64 0, .int .i64 0, .int .i64 0, .string (⟨#[]⟩ : ByteArray)] 30 (0, 0))) ∧ (w.heap.size ≤ s_) ∧ (w0.heap.size ≤ s_) ∧ (g ≠ s_) ∧ (s_ ≠ g) ∧ (gb360 ≠ s_) ∧ (s_ ≠ gb360) ∧ (gb361 ≠ s_) ∧ (s_ ≠ gb361) ∧ (IsS63 w0 w' g s0_0 t366) ∧ (KeepBut w w' g none) ∧ (Below w0.heap.size w0 w')) ?_ ?_
 rotate_left
 {
 intro hJ2_11
 refine join_ (σ := Value × Addr) 10 #[true, true, false, false, false, true, false, false, false, false, false, false, false] (fun s_ => [(7, s_.1)]) (fun s_ w' => (Kd.R (Kd.int .i64) 3 w' w.heap.size (fun _ => True) s_.1 y362) ∧ (∃ c_, (s_.1 : Value) = .slice (some s_.2) y362.length c_) ∧ (w'.heap[gb360]? = some (.cells #[.int .i64 a1_0, .slice A1_1 l1_1.length c1_1, .slice A1_2 l1_2.length c1_2] 50 (0, 0))) ∧ (w'.heap[gb361]? = some (.cells #[.int .i64 0, .int .i64 0, .int .i64 0, .string (⟨#[]⟩ : ByteArray)] 30 (0, 0))) ∧ (IsS63 w0 w' g s0_0 s0_1) ∧ (KeepBut w w' g none) ∧ (Below w0.heap.size w0 w')) ?_ ?_
 rotate_left
 {
 intro hJ0
 refine join_ (σ := Unit) 10 #[false, true, true, false, false, true, false, false, false, false, false, false, false] (fun s_ => [(9, .int .i64 t365)]) (fun s_ w' => (w'.heap[gb360]? = some (.cells #[.int .i64 a1_0, .slice A1_1 l1_1.length c1_1, .slice A1_2 l1_2.length c1_2] 50 (0, 0))) ∧ (w'.heap[gb361]? = some (.cells #[.int .i64 0, .int .i64 0, .int .i64 0, .string (⟨#[]⟩ : ByteArray)] 30 (0, 0))) ∧ (IsS63 w0 w' g s0_0 t366) ∧ (KeepBut w w' g none) ∧ (Below w0.heap.size w0 w')) ?_ ?_
 rotate_left
 {
 intro hJ2
 refine join_ (σ := Nat) 10 #[false, true, false, false, false, true, false, false, false, false, false, true, false] (fun s_ => [(5, .pointer (some ⟨s_, 0, none⟩))]) (fun s_ w' => (w'.heap[gb360]? = some (.cells #[.int .i64 a1_0, .slice A1_1 l1_1.length c1_1, .slice A1_2 l1_2.length c1_2] 50 (0, 0))) ∧ (w'.heap[gb361]? = some (.cells #[.int .i64 0, .int .i64 0, .int .i64 0, .string (⟨#[]⟩ : ByteArray)] 30 (0, 0))) ∧ (w'.heap[s_]? = some (.cells #[.int .i64 0, .int .i64 0, .int .i64 0, .string (⟨#[]⟩ : ByteArray)] 30 (0, 0))) ∧ (w.heap.size ≤ s_) ∧ (w0.heap.size ≤ s_) ∧ (g ≠ s_) ∧ (s_ ≠ g) ∧ (gb360 ≠ s_) ∧ (s_ ≠ gb360) ∧ (gb361 ≠ s_) ∧ (s_ ≠ gb361) ∧ (IsS63 w0 w' g s0_0 s0_1) ∧ (KeepBut w w' g none) ∧ (Below w0.heap.size w0 w')) ?_ ?_
 rotate_left
 {
 intro hJ11
 refine three_ (i := 0) (j := 2) (k := 11) (Ni := some 7) (Nj := some 9) (Nk := some 5) #[true, true, false, false, false, true, false, false, false, false, false, false, false] #[false, true, true, false, false, true, false, false, false, false, false, false, false] #[false, true, false, false, false, true, false, false, false, false, false, true, false] rfl rfl rfl rfl rfl rfl (three_of HT_.out (by kernel_rfl)) (by decide) (by decide) (by decide) (fun K hK => ?_) (fun K hK => ?_) (fun K hK => ?_)
 {
 skip
 refine Kd.R_lit_step (Kd.int .i64) _ 3 ?hg (N := 7) ?hd (xs := ([0, 1, 2, 2, 2, 2, 3, 4] : List Int)) (inner := [.int .i64 0, .int .i64 1, .int .i64 2, .int .i64 2, .int .i64 2, .int .i64 2, .int .i64 3, .int .i64 4]) (ok := fun _ => True) (okp := fun _ => True) ?hr ?hp (fun _ hk => hk) trivial (Below.refl _ _) (Nat.le_refl _) (by simp) ?_; (case hd => rfl); (case hg => rfl); (case hr => exact zcj_12); (case hp => exact zcj_76)
 intro v363 w13 ho14 hb hg_ hnew_
 clear hg_ hnew_
 (first | rw [← Ny362.out] at ho14 | (simp only [Int.reduceToNat] at ho14; rw [← Ny362.out] at ho14))
 have n0_ := Aside0.mk (Kd.R_lower ho14 (keep_size (w := w) (g := g) (row := none) zcj_18))
 have n1_ := Aside0.mk (IsS63.below zcj_23 hb)
 have n2_ := Aside0.mk (blk_below (g := gb360) (o := .cells #[.int .i64 a1_0, .slice A1_1 l1_1.length c1_1, .slice A1_2 l1_2.length c1_2] 50 (0, 0)) zcj_6 hb)
 have n3_ := Aside0.mk (blk_below (g := gb361) (o := .cells #[.int .i64 0, .int .i64 0, .int .i64 0, .string (⟨#[]⟩ : ByteArray)] 30 (0, 0)) zcj_7 hb)
 have n4_ := Aside0.mk (KeepBut.trans zcj_18 (KeepBut.of_below hb g none) (.inl rfl))
 have n5_ := Aside0.mk (below_step zcj_24 hb)
 clear HI0
 clear BK360
 clear BK361
 clear HK
 clear HB
 have HO364 := n0_
 have HI0 := n1_
 have BK360 := n2_
 have BK361 := n3_
 have HK := n4_
 have HB := n5_
 clear n0_ n1_ n2_ n3_ n4_ n5_
 clear hb ho14
 obtain ⟨Ao15, co15, eo15⟩ := Kd.R_slice HO364.out
 subst eo15
 obtain ⟨ado15, fo15, _⟩ := Kd.at_int (Kd.R_reads' HO364.out).2.2 0 (by decide) (by rw [Ny362.out]; simp)
 cases fo15
 refine hK.out _ _ trivial (fun hHeld => ?_)
 clear hK K
 refine norm_ (a' := ?_) ?_ ?_
 rotate_left
 {exact zcj_77}
 exact norm_ (by first | (simp only [putAll, Act.put, List.setIfInBounds_toArray, List.set_cons_zero, List.set_cons_succ]; done) | (simp only [putAll, Act.put, List.setIfInBounds_toArray, List.set_cons_zero, List.set_cons_succ]; rfl)) (hJ0 (.slice (some ado15) y362.length co15, ado15) _ ⟨zcj_16, ⟨_, rfl⟩, zcj_6, zcj_7, zcj_23, zcj_18, zcj_24⟩)
 }
 {
 skip
 refine goes_ Tryd.func34 (by kernel_rfl) rfl #[.pointer (some ⟨g, 0, none⟩), .int .i64 8] (by rfl) rfl rfl zcj_3 ?_
 with_reducible refine (spec_l20Rd_pick.calls k g s0_0 s0_1 8 t365 t366 w0 _ ?side1 ?side2 A3.out).mono ?_
 (case side1 => exact zcj_23)
 (case side2 => exact zcj_24)
 rintro e w13 ⟨rfl, hi, hb, hk⟩
 refine ⟨_, rfl, ?_⟩
 refine zcj_f25 ?_
 clear BK360
 clear BK361
 clear HK
 clear HB
 clear HI0
 intro BK360 BK361 HK HB HI0
 (try clear hb)
 (try clear hb2)
 (try clear hk)
 (try clear hi)
 refine hK.out _ _ trivial (fun hHeld => ?_)
 clear hK K
 refine norm_ (a' := ?_) ?_ ?_
 rotate_left
 {exact zcj_99}
 exact norm_ (by first | (simp only [putAll, Act.put, List.setIfInBounds_toArray, List.set_cons_zero, List.set_cons_succ]; done) | (simp only [putAll, Act.put, List.setIfInBounds_toArray, List.set_cons_zero, List.set_cons_succ]; rfl)) (hJ2 () _ ⟨zcj_6, zcj_7, zcj_23, zcj_18, zcj_24⟩)
 }
 {
 skip
 refine box_step ?hg (N := 5) ?hd (cs := #[.int .i64 0, .int .i64 0, .int .i64 0, .string (⟨#[]⟩ : ByteArray)]) (t := 30) ?hr ?_; (case hd => rfl); (case hg => rfl); (case hr => exact zcj_12)
 intro gb370 hg w13 hbox hb
 have n0_ := Aside0.mk (IsS63.below zcj_23 hb)
 have n1_ := Aside0.mk (blk_below (g := gb360) (o := .cells #[.int .i64 a1_0, .slice A1_1 l1_1.length c1_1, .slice A1_2 l1_2.length c1_2] 50 (0, 0)) zcj_6 hb)
 have n2_ := Aside0.mk (blk_below (g := gb361) (o := .cells #[.int .i64 0, .int .i64 0, .int .i64 0, .string (⟨#[]⟩ : ByteArray)] 30 (0, 0)) zcj_7 hb)
 have n3_ := Aside0.mk (KeepBut.trans zcj_18 (KeepBut.of_below hb g none) (.inl rfl))
 have n4_ := Aside0.mk (below_step zcj_24 hb)
 have n5_ := Aside0.mk (hbox)
 have n6_ := Aside0.mk ((zcj_41 : w.heap.size ≤ gb370))
 have n7_ := Aside0.mk ((Nat.le_trans HW0.out (zcj_41 : w.heap.size ≤ gb370) : w0.heap.size ≤ gb370))
 have n8_ := Aside0.mk ((zcj_60 : gb360 ≠ gb370))
 have n9_ := Aside0.mk ((zcj_61 : gb370 ≠ gb360))
 have n10_ := Aside0.mk ((zcj_78 : gb361 ≠ gb370))
 have n11_ := Aside0.mk ((zcj_79 : gb370 ≠ gb361))
 have n12_ := Aside0.mk ((zcj_153 : g ≠ gb370))
 have n13_ := Aside0.mk ((zcj_154 : gb370 ≠ g))
 clear HI0
 clear BK360
 clear BK361
 clear HK
 clear HB
 have HI0 := n0_
 have BK360 := n1_
 have BK361 := n2_
 have HK := n3_
 have HB := n4_
 have BK370 := n5_
 have GW370 := n6_
 have GE370 := n7_
 have NB360_370 := n8_
 have NB370_360 := n9_
 have NB361_370 := n10_
 have NB370_361 := n11_
 have NB0_370 := n12_
 have NB370_0 := n13_
 clear n0_ n1_ n2_ n3_ n4_ n5_ n6_ n7_ n8_ n9_ n10_ n11_ n12_ n13_
 clear hb hbox hg
 refine hK.out _ _ trivial (fun hHeld => ?_)
 clear hK K
 refine norm_ (a' := ?_) ?_ ?_
 rotate_left
 {exact zcj_55}
 exact norm_ (by first | (simp only [putAll, Act.put, List.setIfInBounds_toArray, List.set_cons_zero, List.set_cons_succ]; done) | (simp only [putAll, Act.put, List.setIfInBounds_toArray, List.set_cons_zero, List.set_cons_succ]; rfl)) (hJ11 (gb370) _ ⟨zcj_6, zcj_7, zcj_14, GW370.out, GE370.out, NB0_370.out, NB370_0.out, NB360_370.out, NB370_360.out, NB361_370.out, NB370_361.out, zcj_8, zcj_10, zcj_11⟩)
 }
 }
 {
 skip
 rintro gb370 w14 ⟨h0_, h1_, h2_, h3_, h4_, h5_, h6_, h7_, h8_, h9_, h10_, h11_, h12_, h13_⟩
 have n0_ : Aside0 (w14.heap[gb360]? = some (.cells #[.int .i64 a1_0, .slice A1_1 l1_1.length c1_1, .slice A1_2 l1_2.length c1_2] 50 (0, 0))) := ⟨h0_⟩
 have n1_ : Aside0 (w14.heap[gb361]? = some (.cells #[.int .i64 0, .int .i64 0, .int .i64 0, .string (⟨#[]⟩ : ByteArray)] 30 (0, 0))) := ⟨h1_⟩
 have n2_ : Aside0 (w14.heap[gb370]? = some (.cells #[.int .i64 0, .int .i64 0, .int .i64 0, .string (⟨#[]⟩ : ByteArray)] 30 (0, 0))) := ⟨h2_⟩
 have n3_ : Aside0 (w.heap.size ≤ gb370) := ⟨h3_⟩
 have n4_ : Aside0 (w0.heap.size ≤ gb370) := ⟨h4_⟩
 have n5_ : Aside0 (g ≠ gb370) := ⟨h5_⟩
 have n6_ : Aside0 (gb370 ≠ g) := ⟨h6_⟩
 have n7_ : Aside0 (gb360 ≠ gb370) := ⟨h7_⟩
 have n8_ : Aside0 (gb370 ≠ gb360) := ⟨h8_⟩
 have n9_ : Aside0 (gb361 ≠ gb370) := ⟨h9_⟩
 have n10_ : Aside0 (gb370 ≠ gb361) := ⟨h10_⟩
 have n11_ : Aside0 (IsS63 w0 w14 g s0_0 s0_1) := ⟨h11_⟩
 have n12_ : Aside0 (KeepBut w w14 g none) := ⟨h12_⟩
 have n13_ : Aside0 (Below w0.heap.size w0 w14) := ⟨h13_⟩
 clear BK360
 clear BK361
 clear HI0
 clear HK
 clear HB
 clear h0_ h1_ h2_ h3_ h4_ h5_ h6_ h7_ h8_ h9_ h10_ h11_ h12_ h13_
 have BK360 := n0_
 have BK361 := n1_
 have BK370 := n2_
 have GW370 := n3_
 have GE370 := n4_
 have NB0_370 := n5_
 have NB370_0 := n6_
 have NB360_370 := n7_
 have NB370_360 := n8_
 have NB361_370 := n9_
 have NB370_361 := n10_
 have HI0 := n11_
 have HK := n12_
 have HB := n13_
 clear n0_ n1_ n2_ n3_ n4_ n5_ n6_ n7_ n8_ n9_ n10_ n11_ n12_ n13_
 have hHeld := trivial
 refine norm_ (a' := ?_) ?_ ?_
 rotate_left
 {exact zcj_33}
 refine two_ (i := 0) (j := 2) (Ni := some 7) (Nj := some 9) #[true, true, false, false, false, true, false, false, false, false, false, true, false] #[false, true, true, false, false, true, false, false, false, false, false, true, false] rfl rfl rfl rfl (two_of HT_.out (by kernel_rfl)) (by decide) (by decide) (fun K hK => ?_) (fun K hK => ?_)
 {
 skip
 refine Kd.R_lit_step (Kd.int .i64) _ 3 ?hg (N := 7) ?hd (xs := ([0, 1, 2, 2, 2, 2, 3, 4] : List Int)) (inner := [.int .i64 0, .int .i64 1, .int .i64 2, .int .i64 2, .int .i64 2, .int .i64 2, .int .i64 3, .int .i64 4]) (ok := fun _ => True) (okp := fun _ => True) ?hr ?hp (fun _ hk => hk) trivial (Below.refl _ _) (Nat.le_refl _) (by simp) ?_; (case hd => rfl); (case hg => rfl); (case hr => exact zcj_12); (case hp => exact zcj_76)
 intro v363 w15 ho16 hb hg_ hnew_
 clear hg_ hnew_
 (first | rw [← Ny362.out] at ho16 | (simp only [Int.reduceToNat] at ho16; rw [← Ny362.out] at ho16))
 have n0_ := Aside0.mk (Kd.R_lower ho16 (keep_size (w := w) (g := g) (row := none) zcj_10))
 have n1_ := Aside0.mk (IsS63.below zcj_8 hb)
 have n2_ := Aside0.mk (blk_below (g := gb360) (o := .cells #[.int .i64 a1_0, .slice A1_1 l1_1.length c1_1, .slice A1_2 l1_2.length c1_2] 50 (0, 0)) zcj_6 hb)
 have n3_ := Aside0.mk (blk_below (g := gb361) (o := .cells #[.int .i64 0, .int .i64 0, .int .i64 0, .string (⟨#[]⟩ : ByteArray)] 30 (0, 0)) zcj_7 hb)
 have n4_ := Aside0.mk (blk_below (g := gb370) (o := .cells #[.int .i64 0, .int .i64 0, .int .i64 0, .string (⟨#[]⟩ : ByteArray)] 30 (0, 0)) zcj_14 hb)
 have n5_ := Aside0.mk (KeepBut.trans zcj_10 (KeepBut.of_below hb g none) (.inl rfl))
 have n6_ := Aside0.mk (below_step zcj_11 hb)
 clear HI0
 clear BK360
 clear BK361
 clear BK370
 clear HK
 clear HB
 have HO364 := n0_
 have HI0 := n1_
 have BK360 := n2_
 have BK361 := n3_
 have BK370 := n4_
 have HK := n5_
 have HB := n6_
 clear n0_ n1_ n2_ n3_ n4_ n5_ n6_
 clear hb ho16
 obtain ⟨Ao17, co17, eo17⟩ := Kd.R_slice HO364.out
 subst eo17
 obtain ⟨ado17, fo17, _⟩ := Kd.at_int (Kd.R_reads' HO364.out).2.2 0 (by decide) (by rw [Ny362.out]; simp)
 cases fo17
 refine hK.out _ _ trivial (fun hHeld => ?_)
 clear hK K
 refine norm_ (a' := ?_) ?_ ?_
 rotate_left
 {exact zcj_77}
 exact norm_ (by first | (simp only [putAll, Act.put, List.setIfInBounds_toArray, List.set_cons_zero, List.set_cons_succ]; done) | (simp only [putAll, Act.put, List.setIfInBounds_toArray, List.set_cons_zero, List.set_cons_succ]; rfl)) (hJ0_11 (.slice (some ado17) y362.length co17, ado17, gb370) _ ⟨zcj_16, ⟨_, rfl⟩, zcj_6, zcj_7, zcj_14, GW370.out, GE370.out, NB0_370.out, NB370_0.out, NB360_370.out, NB370_360.out, NB361_370.out, NB370_361.out, zcj_8, zcj_10, zcj_11⟩)
 }
 {
 skip
 refine goes_ Tryd.func34 (by kernel_rfl) rfl #[.pointer (some ⟨g, 0, none⟩), .int .i64 8] (by rfl) rfl rfl zcj_3 ?_
 with_reducible refine (spec_l20Rd_pick.calls k g s0_0 s0_1 8 t365 t366 w0 _ ?side1 ?side2 A3.out).mono ?_
 (case side1 => exact zcj_8)
 (case side2 => exact zcj_11)
 rintro e w15 ⟨rfl, hi, hb, hk⟩
 refine ⟨_, rfl, ?_⟩
 refine zcj_f26 ?_
 clear BK360
 clear BK361
 clear BK370
 clear HK
 clear HB
 clear HI0
 intro BK360 BK361 BK370 HK HB HI0
 (try clear hb)
 (try clear hb2)
 (try clear hk)
 (try clear hi)
 refine hK.out _ _ trivial (fun hHeld => ?_)
 clear hK K
 refine norm_ (a' := ?_) ?_ ?_
 rotate_left
 {exact zcj_99}
 exact norm_ (by first | (simp only [putAll, Act.put, List.setIfInBounds_toArray, List.set_cons_zero, List.set_cons_succ]; done) | (simp only [putAll, Act.put, List.setIfInBounds_toArray, List.set_cons_zero, List.set_cons_succ]; rfl)) (hJ2_11 (gb370) _ ⟨zcj_6, zcj_7, zcj_14, GW370.out, GE370.out, NB0_370.out, NB370_0.out, NB360_370.out, NB370_360.out, NB361_370.out, NB370_361.out, zcj_8, zcj_10, zcj_11⟩)
 }
 }
 }
 {
 skip
 rintro _ w14 ⟨h0_, h1_, h2_, h3_, h4_⟩
 have n0_ : Aside0 (w14.heap[gb360]? = some (.cells #[.int .i64 a1_0, .slice A1_1 l1_1.length c1_1, .slice A1_2 l1_2.length c1_2] 50 (0, 0))) := ⟨h0_⟩
 have n1_ : Aside0 (w14.heap[gb361]? = some (.cells #[.int .i64 0, .int .i64 0, .int .i64 0, .string (⟨#[]⟩ : ByteArray)] 30 (0, 0))) := ⟨h1_⟩
 have n2_ : Aside0 (IsS63 w0 w14 g s0_0 t366) := ⟨h2_⟩
 have n3_ : Aside0 (KeepBut w w14 g none) := ⟨h3_⟩
 have n4_ : Aside0 (Below w0.heap.size w0 w14) := ⟨h4_⟩
 clear BK360
 clear BK361
 clear HI0
 clear HK
 clear HB
 clear h0_ h1_ h2_ h3_ h4_
 have BK360 := n0_
 have BK361 := n1_
 have HI0 := n2_
 have HK := n3_
 have HB := n4_
 clear n0_ n1_ n2_ n3_ n4_
 have hHeld := trivial
 refine norm_ (a' := ?_) ?_ ?_
 rotate_left
 {exact zcj_33}
 refine three_ (i := 0) (j := 6) (k := 11) (Ni := some 7) (Nj := some 13) (Nk := some 5) #[true, true, true, false, false, true, false, false, false, false, false, false, false] #[false, true, true, false, false, true, true, false, false, false, false, false, false] #[false, true, true, false, false, true, false, false, false, false, false, true, false] rfl rfl rfl rfl rfl rfl (three_of HT_.out (by kernel_rfl)) (by decide) (by decide) (by decide) (fun K hK => ?_) (fun K hK => ?_) (fun K hK => ?_)
 {
 skip
 refine Kd.R_lit_step (Kd.int .i64) _ 3 ?hg (N := 7) ?hd (xs := ([0, 1, 2, 2, 2, 2, 3, 4] : List Int)) (inner := [.int .i64 0, .int .i64 1, .int .i64 2, .int .i64 2, .int .i64 2, .int .i64 2, .int .i64 3, .int .i64 4]) (ok := fun _ => True) (okp := fun _ => True) ?hr ?hp (fun _ hk => hk) trivial (Below.refl _ _) (Nat.le_refl _) (by simp) ?_; (case hd => rfl); (case hg => rfl); (case hr => exact zcj_12); (case hp => exact zcj_76)
 intro v363 w15 ho16 hb hg_ hnew_
 clear hg_ hnew_
 (first | rw [← Ny362.out] at ho16 | (simp only [Int.reduceToNat] at ho16; rw [← Ny362.out] at ho16))
 have n0_ := Aside0.mk (Kd.R_lower ho16 (keep_size (w := w) (g := g) (row := none) zcj_18))
 have n1_ := Aside0.mk (IsS63.below zcj_23 hb)
 have n2_ := Aside0.mk (blk_below (g := gb360) (o := .cells #[.int .i64 a1_0, .slice A1_1 l1_1.length c1_1, .slice A1_2 l1_2.length c1_2] 50 (0, 0)) zcj_6 hb)
 have n3_ := Aside0.mk (blk_below (g := gb361) (o := .cells #[.int .i64 0, .int .i64 0, .int .i64 0, .string (⟨#[]⟩ : ByteArray)] 30 (0, 0)) zcj_7 hb)
 have n4_ := Aside0.mk (KeepBut.trans zcj_18 (KeepBut.of_below hb g none) (.inl rfl))
 have n5_ := Aside0.mk (below_step zcj_24 hb)
 clear HI0
 clear BK360
 clear BK361
 clear HK
 clear HB
 have HO364 := n0_
 have HI0 := n1_
 have BK360 := n2_
 have BK361 := n3_
 have HK := n4_
 have HB := n5_
 clear n0_ n1_ n2_ n3_ n4_ n5_
 clear hb ho16
 obtain ⟨Ao17, co17, eo17⟩ := Kd.R_slice HO364.out
 subst eo17
 obtain ⟨ado17, fo17, _⟩ := Kd.at_int (Kd.R_reads' HO364.out).2.2 0 (by decide) (by rw [Ny362.out]; simp)
 cases fo17
 refine hK.out _ _ trivial (fun hHeld => ?_)
 clear hK K
 refine norm_ (a' := ?_) ?_ ?_
 rotate_left
 {exact zcj_77}
 refine pure_ (i := 3) (N := some 10) (v := ?_) (a' := ?_) #[true, true, true, true, false, true, false, false, false, false, false, false, false] rfl rfl (any_of HT_.out (by kernel_rfl)) (fun _ _ _ h => h) (Or.inl ⟨by rfl, ?_⟩) ?_ ?_
 rotate_left
 {
 intro w'
 go_simp
 with_reducible rfl
 }
 rotate_left
 {exact zcj_1}
 exact norm_ (by first | (simp only [putAll, Act.put, List.setIfInBounds_toArray, List.set_cons_zero, List.set_cons_succ]; done) | (simp only [putAll, Act.put, List.setIfInBounds_toArray, List.set_cons_zero, List.set_cons_succ]; rfl)) (hJ0_2 (.slice (some ado17) y362.length co17, ado17) _ ⟨zcj_16, ⟨_, rfl⟩, zcj_6, zcj_7, zcj_23, zcj_18, zcj_24⟩)
 }
 {
 skip
 refine goes_ Tryd.func34 (by kernel_rfl) rfl #[.pointer (some ⟨g, 0, none⟩), .int .i64 60] (by rfl) rfl rfl zcj_3 ?_
 with_reducible refine (spec_l20Rd_pick.calls k g s0_0 t366 60 t368 t369 w0 _ ?side1 ?side2 A6.out).mono ?_
 (case side1 => exact zcj_23)
 (case side2 => exact zcj_24)
 rintro e w15 ⟨rfl, hi, hb, hk⟩
 refine ⟨_, rfl, ?_⟩
 refine zcj_f25 ?_
 clear BK360
 clear BK361
 clear HK
 clear HB
 clear HI0
 intro BK360 BK361 HK HB HI0
 (try clear hb)
 (try clear hb2)
 (try clear hk)
 (try clear hi)
 refine hK.out _ _ trivial (fun hHeld => ?_)
 clear hK K
 refine norm_ (a' := ?_) ?_ ?_
 rotate_left
 {exact zcj_50}
 refine pure_ (i := 7) (N := some 14) (v := ?_) (a' := ?_) #[false, true, true, false, false, true, true, true, false, false, false, false, false] rfl rfl (any_of HT_.out (by kernel_rfl)) (fun _ _ _ h => h) (Or.inl ⟨by rfl, ?_⟩) ?_ ?_
 rotate_left
 {
 intro w'
 go_simp
 with_reducible rfl
 }
 rotate_left
 {exact zcj_1}
 refine pure_ (i := 8) (N := some 15) (v := ?_) (a' := ?_) #[false, true, true, false, false, true, true, true, true, false, false, false, false] rfl rfl (any_of HT_.out (by kernel_rfl)) (fun _ _ _ h => h) (Or.inl ⟨by rfl, ?_⟩) ?_ ?_
 rotate_left
 {
 intro w'
 go_simp
 with_reducible rfl
 }
 rotate_left
 {exact zcj_1}
 exact norm_ (by first | (simp only [putAll, Act.put, List.setIfInBounds_toArray, List.set_cons_zero, List.set_cons_succ]; done) | (simp only [putAll, Act.put, List.setIfInBounds_toArray, List.set_cons_zero, List.set_cons_succ]; rfl)) (hJ2_6 () _ ⟨zcj_6, zcj_7, zcj_23, zcj_18, zcj_24⟩)
 }
 {
 skip
 refine box_step ?hg (N := 5) ?hd (cs := #[.int .i64 0, .int .i64 0, .int .i64 0, .string (⟨#[]⟩ : ByteArray)]) (t := 30) ?hr ?_; (case hd => rfl); (case hg => rfl); (case hr => exact zcj_12)
 intro gb370 hg w15 hbox hb
 have n0_ := Aside0.mk (IsS63.below zcj_23 hb)
 have n1_ := Aside0.mk (blk_below (g := gb360) (o := .cells #[.int .i64 a1_0, .slice A1_1 l1_1.length c1_1, .slice A1_2 l1_2.length c1_2] 50 (0, 0)) zcj_6 hb)
 have n2_ := Aside0.mk (blk_below (g := gb361) (o := .cells #[.int .i64 0, .int .i64 0, .int .i64 0, .string (⟨#[]⟩ : ByteArray)] 30 (0, 0)) zcj_7 hb)
 have n3_ := Aside0.mk (KeepBut.trans zcj_18 (KeepBut.of_below hb g none) (.inl rfl))
 have n4_ := Aside0.mk (below_step zcj_24 hb)
 have n5_ := Aside0.mk (hbox)
 have n6_ := Aside0.mk ((zcj_41 : w.heap.size ≤ gb370))
 have n7_ := Aside0.mk ((Nat.le_trans HW0.out (zcj_41 : w.heap.size ≤ gb370) : w0.heap.size ≤ gb370))
 have n8_ := Aside0.mk ((zcj_60 : gb360 ≠ gb370))
 have n9_ := Aside0.mk ((zcj_61 : gb370 ≠ gb360))
 have n10_ := Aside0.mk ((zcj_78 : gb361 ≠ gb370))
 have n11_ := Aside0.mk ((zcj_79 : gb370 ≠ gb361))
 have n12_ := Aside0.mk ((zcj_155 : g ≠ gb370))
 have n13_ := Aside0.mk ((zcj_156 : gb370 ≠ g))
 clear HI0
 clear BK360
 clear BK361
 clear HK
 clear HB
 have HI0 := n0_
 have BK360 := n1_
 have BK361 := n2_
 have HK := n3_
 have HB := n4_
 have BK370 := n5_
 have GW370 := n6_
 have GE370 := n7_
 have NB360_370 := n8_
 have NB370_360 := n9_
 have NB361_370 := n10_
 have NB370_361 := n11_
 have NB0_370 := n12_
 have NB370_0 := n13_
 clear n0_ n1_ n2_ n3_ n4_ n5_ n6_ n7_ n8_ n9_ n10_ n11_ n12_ n13_
 clear hb hbox hg
 refine hK.out _ _ trivial (fun hHeld => ?_)
 clear hK K
 refine norm_ (a' := ?_) ?_ ?_
 rotate_left
 {exact zcj_55}
 exact norm_ (by first | (simp only [putAll, Act.put, List.setIfInBounds_toArray, List.set_cons_zero, List.set_cons_succ]; done) | (simp only [putAll, Act.put, List.setIfInBounds_toArray, List.set_cons_zero, List.set_cons_succ]; rfl)) (hJ2_11 (gb370) _ ⟨zcj_6, zcj_7, zcj_14, GW370.out, GE370.out, NB0_370.out, NB370_0.out, NB360_370.out, NB370_360.out, NB361_370.out, NB370_361.out, zcj_8, zcj_10, zcj_11⟩)
 }
 }
 }
 {
 skip
 rintro ⟨v363, adz_v363⟩ w16 ⟨h0_, h1_, h2_, h3_, h4_, h5_, h6_⟩
 have n0_ : Aside0 (Kd.R (Kd.int .i64) 3 w16 w.heap.size (fun _ => True) v363 y362) := ⟨h0_⟩
 have n1_ : Aside0 (∃ c_, (v363 : Value) = .slice (some adz_v363) y362.length c_) := ⟨h1_⟩
 have n2_ : Aside0 (w16.heap[gb360]? = some (.cells #[.int .i64 a1_0, .slice A1_1 l1_1.length c1_1, .slice A1_2 l1_2.length c1_2] 50 (0, 0))) := ⟨h2_⟩
 have n3_ : Aside0 (w16.heap[gb361]? = some (.cells #[.int .i64 0, .int .i64 0, .int .i64 0, .string (⟨#[]⟩ : ByteArray)] 30 (0, 0))) := ⟨h3_⟩
 have n4_ : Aside0 (IsS63 w0 w16 g s0_0 s0_1) := ⟨h4_⟩
 have n5_ : Aside0 (KeepBut w w16 g none) := ⟨h5_⟩
 have n6_ : Aside0 (Below w0.heap.size w0 w16) := ⟨h6_⟩
 clear BK360
 clear BK361
 clear HI0
 clear HK
 clear HB
 clear h0_ h1_ h2_ h3_ h4_ h5_ h6_
 have HO364 := n0_
 have HA_HO364 := n1_
 have BK360 := n2_
 have BK361 := n3_
 have HI0 := n4_
 have HK := n5_
 have HB := n6_
 clear n0_ n1_ n2_ n3_ n4_ n5_ n6_
 have hHeld := trivial
 obtain ⟨co17, eo17⟩ := HA_HO364.out
 clear HA_HO364
 subst eo17
 refine norm_ (a' := ?_) ?_ ?_
 rotate_left
 {exact zcj_33}
 refine two_ (i := 2) (j := 11) (Ni := some 9) (Nj := some 5) #[true, true, true, false, false, true, false, false, false, false, false, false, false] #[true, true, false, false, false, true, false, false, false, false, false, true, false] rfl rfl rfl rfl (two_of HT_.out (by kernel_rfl)) (by decide) (by decide) (fun K hK => ?_) (fun K hK => ?_)
 {
 skip
 refine goes_ Tryd.func34 (by kernel_rfl) rfl #[.pointer (some ⟨g, 0, none⟩), .int .i64 8] (by rfl) rfl rfl zcj_3 ?_
 with_reducible refine (spec_l20Rd_pick.calls k g s0_0 s0_1 8 t365 t366 w0 _ ?side1 ?side2 A3.out).mono ?_
 (case side1 => exact zcj_23)
 (case side2 => exact zcj_24)
 rintro e w18 ⟨rfl, hi, hb, hk⟩
 refine ⟨_, rfl, ?_⟩
 have n0_ := Aside0.mk (KeepBut.blk hk (g' := gb360) (o := .cells #[.int .i64 a1_0, .slice A1_1 l1_1.length c1_1, .slice A1_2 l1_2.length c1_2] 50 (0, 0)) zcj_6 NB360_0.out (by simp))
 have n1_ := Aside0.mk (KeepBut.blk hk (g' := gb361) (o := .cells #[.int .i64 0, .int .i64 0, .int .i64 0, .string (⟨#[]⟩ : ByteArray)] 30 (0, 0)) zcj_7 NB361_0.out (by simp))
 have n2_ := Aside0.mk (Kd.R_mono (Kd.R_keep (IsS63.apart (show IsS63 w0 _ g s0_0 s0_1 from by repeat (first | (with_reducible first | exact HI0.out | apply IsS63.alloc | apply IsS63.drewN | apply IsS63.drew | apply IsS63.set_1 | refine IsS63.far ?_ NB0_360.out _ | refine IsS63.far ?_ NB0_361.out _) | exact HI0.out)) zcj_16 (by decide)) hk (fun _ h => h.2)) (fun _ h => h.1))
 have n3_ := Aside0.mk (KeepBut.trans zcj_18 hk (.inl rfl))
 have n4_ := Aside0.mk (hb)
 have n5_ := Aside0.mk (hi)
 clear BK360
 clear BK361
 clear HO364
 clear HK
 clear HB
 clear HI0
 have BK360 := n0_
 have BK361 := n1_
 have HO364 := n2_
 have HK := n3_
 have HB := n4_
 have HI0 := n5_
 clear n0_ n1_ n2_ n3_ n4_ n5_
 (try clear hb)
 (try clear hb2)
 (try clear hk)
 (try clear hi)
 refine hK.out _ _ trivial (fun hHeld => ?_)
 clear hK K
 refine norm_ (a' := ?_) ?_ ?_
 rotate_left
 {exact zcj_99}
 refine pure_ (i := 3) (N := some 10) (v := ?_) (a' := ?_) #[true, true, true, true, false, true, false, false, false, false, false, false, false] rfl rfl (any_of HT_.out (by kernel_rfl)) (fun _ _ _ h => h) (Or.inl ⟨by rfl, ?_⟩) ?_ ?_
 rotate_left
 {
 intro w'
 go_simp
 with_reducible rfl
 }
 rotate_left
 {exact zcj_1}
 exact norm_ (by first | (simp only [putAll, Act.put, List.setIfInBounds_toArray, List.set_cons_zero, List.set_cons_succ]; done) | (simp only [putAll, Act.put, List.setIfInBounds_toArray, List.set_cons_zero, List.set_cons_succ]; rfl)) (hJ0_2 (.slice (some adz_v363) y362.length co17, adz_v363) _ ⟨zcj_16, ⟨_, rfl⟩, zcj_6, zcj_7, zcj_23, zcj_18, zcj_24⟩)
 }
 {
 skip
 refine box_step ?hg (N := 5) ?hd (cs := #[.int .i64 0, .int .i64 0, .int .i64 0, .string (⟨#[]⟩ : ByteArray)]) (t := 30) ?hr ?_; (case hd => rfl); (case hg => rfl); (case hr => exact zcj_12)
 intro gb370 hg w18 hbox hb
 have n0_ := Aside0.mk (Kd.R_below zcj_16 hb)
 have n1_ := Aside0.mk (IsS63.below zcj_23 hb)
 have n2_ := Aside0.mk (blk_below (g := gb360) (o := .cells #[.int .i64 a1_0, .slice A1_1 l1_1.length c1_1, .slice A1_2 l1_2.length c1_2] 50 (0, 0)) zcj_6 hb)
 have n3_ := Aside0.mk (blk_below (g := gb361) (o := .cells #[.int .i64 0, .int .i64 0, .int .i64 0, .string (⟨#[]⟩ : ByteArray)] 30 (0, 0)) zcj_7 hb)
 have n4_ := Aside0.mk (KeepBut.trans zcj_18 (KeepBut.of_below hb g none) (.inl rfl))
 have n5_ := Aside0.mk (below_step zcj_24 hb)
 have n6_ := Aside0.mk (hbox)
 have n7_ := Aside0.mk ((zcj_41 : w.heap.size ≤ gb370))
 have n8_ := Aside0.mk ((Nat.le_trans HW0.out (zcj_41 : w.heap.size ≤ gb370) : w0.heap.size ≤ gb370))
 have n9_ := Aside0.mk ((zcj_60 : gb360 ≠ gb370))
 have n10_ := Aside0.mk ((zcj_61 : gb370 ≠ gb360))
 have n11_ := Aside0.mk ((zcj_78 : gb361 ≠ gb370))
 have n12_ := Aside0.mk ((zcj_79 : gb370 ≠ gb361))
 have n13_ := Aside0.mk ((zcj_153 : g ≠ gb370))
 have n14_ := Aside0.mk ((zcj_154 : gb370 ≠ g))
 clear HO364
 clear HI0
 clear BK360
 clear BK361
 clear HK
 clear HB
 have HO364 := n0_
 have HI0 := n1_
 have BK360 := n2_
 have BK361 := n3_
 have HK := n4_
 have HB := n5_
 have BK370 := n6_
 have GW370 := n7_
 have GE370 := n8_
 have NB360_370 := n9_
 have NB370_360 := n10_
 have NB361_370 := n11_
 have NB370_361 := n12_
 have NB0_370 := n13_
 have NB370_0 := n14_
 clear n0_ n1_ n2_ n3_ n4_ n5_ n6_ n7_ n8_ n9_ n10_ n11_ n12_ n13_ n14_
 clear hb hbox hg
 refine hK.out _ _ trivial (fun hHeld => ?_)
 clear hK K
 refine norm_ (a' := ?_) ?_ ?_
 rotate_left
 {exact zcj_55}
 exact norm_ (by first | (simp only [putAll, Act.put, List.setIfInBounds_toArray, List.set_cons_zero, List.set_cons_succ]; done) | (simp only [putAll, Act.put, List.setIfInBounds_toArray, List.set_cons_zero, List.set_cons_succ]; rfl)) (hJ0_11 (.slice (some adz_v363) y362.length co17, adz_v363, gb370) _ ⟨zcj_16, ⟨_, rfl⟩, zcj_6, zcj_7, zcj_14, GW370.out, GE370.out, NB0_370.out, NB370_0.out, NB360_370.out, NB370_360.out, NB361_370.out, NB370_361.out, zcj_8, zcj_10, zcj_11⟩)
 }
 }
 }
 {
 skip
 rintro gb370 w15 ⟨h0_, h1_, h2_, h3_, h4_, h5_, h6_, h7_, h8_, h9_, h10_, h11_, h12_, h13_⟩
 have n0_ : Aside0 (w15.heap[gb360]? = some (.cells #[.int .i64 a1_0, .slice A1_1 l1_1.length c1_1, .slice A1_2 l1_2.length c1_2] 50 (0, 0))) := ⟨h0_⟩
 have n1_ : Aside0 (w15.heap[gb361]? = some (.cells #[.int .i64 0, .int .i64 0, .int .i64 0, .string (⟨#[]⟩ : ByteArray)] 30 (0, 0))) := ⟨h1_⟩
 have n2_ : Aside0 (w15.heap[gb370]? = some (.cells #[.int .i64 0, .int .i64 0, .int .i64 0, .string (⟨#[]⟩ : ByteArray)] 30 (0, 0))) := ⟨h2_⟩
 have n3_ : Aside0 (w.heap.size ≤ gb370) := ⟨h3_⟩
 have n4_ : Aside0 (w0.heap.size ≤ gb370) := ⟨h4_⟩
 have n5_ : Aside0 (g ≠ gb370) := ⟨h5_⟩
 have n6_ : Aside0 (gb370 ≠ g) := ⟨h6_⟩
 have n7_ : Aside0 (gb360 ≠ gb370) := ⟨h7_⟩
 have n8_ : Aside0 (gb370 ≠ gb360) := ⟨h8_⟩
 have n9_ : Aside0 (gb361 ≠ gb370) := ⟨h9_⟩
 have n10_ : Aside0 (gb370 ≠ gb361) := ⟨h10_⟩
 have n11_ : Aside0 (IsS63 w0 w15 g s0_0 t366) := ⟨h11_⟩
 have n12_ : Aside0 (KeepBut w w15 g none) := ⟨h12_⟩
 have n13_ : Aside0 (Below w0.heap.size w0 w15) := ⟨h13_⟩
 clear BK360
 clear BK361
 clear HI0
 clear HK
 clear HB
 clear h0_ h1_ h2_ h3_ h4_ h5_ h6_ h7_ h8_ h9_ h10_ h11_ h12_ h13_
 have BK360 := n0_
 have BK361 := n1_
 have BK370 := n2_
 have GW370 := n3_
 have GE370 := n4_
 have NB0_370 := n5_
 have NB370_0 := n6_
 have NB360_370 := n7_
 have NB370_360 := n8_
 have NB361_370 := n9_
 have NB370_361 := n10_
 have HI0 := n11_
 have HK := n12_
 have HB := n13_
 clear n0_ n1_ n2_ n3_ n4_ n5_ n6_ n7_ n8_ n9_ n10_ n11_ n12_ n13_
 have hHeld := trivial
 refine norm_ (a' := ?_) ?_ ?_
 rotate_left
 {exact zcj_33}
 refine two_ (i := 0) (j := 6) (Ni := some 7) (Nj := some 13) #[true, true, true, false, false, true, false, false, false, false, false, true, false] #[false, true, true, false, false, true, true, false, false, false, false, true, false] rfl rfl rfl rfl (two_of HT_.out (by kernel_rfl)) (by decide) (by decide) (fun K hK => ?_) (fun K hK => ?_)
 {
 skip
 refine Kd.R_lit_step (Kd.int .i64) _ 3 ?hg (N := 7) ?hd (xs := ([0, 1, 2, 2, 2, 2, 3, 4] : List Int)) (inner := [.int .i64 0, .int .i64 1, .int .i64 2, .int .i64 2, .int .i64 2, .int .i64 2, .int .i64 3, .int .i64 4]) (ok := fun _ => True) (okp := fun _ => True) ?hr ?hp (fun _ hk => hk) trivial (Below.refl _ _) (Nat.le_refl _) (by simp) ?_; (case hd => rfl); (case hg => rfl); (case hr => exact zcj_12); (case hp => exact zcj_76)
 intro v363 w16 ho17 hb hg_ hnew_
 clear hg_ hnew_
 (first | rw [← Ny362.out] at ho17 | (simp only [Int.reduceToNat] at ho17; rw [← Ny362.out] at ho17))
 have n0_ := Aside0.mk (Kd.R_lower ho17 (keep_size (w := w) (g := g) (row := none) zcj_10))
 have n1_ := Aside0.mk (IsS63.below zcj_8 hb)
 have n2_ := Aside0.mk (blk_below (g := gb360) (o := .cells #[.int .i64 a1_0, .slice A1_1 l1_1.length c1_1, .slice A1_2 l1_2.length c1_2] 50 (0, 0)) zcj_6 hb)
 have n3_ := Aside0.mk (blk_below (g := gb361) (o := .cells #[.int .i64 0, .int .i64 0, .int .i64 0, .string (⟨#[]⟩ : ByteArray)] 30 (0, 0)) zcj_7 hb)
 have n4_ := Aside0.mk (blk_below (g := gb370) (o := .cells #[.int .i64 0, .int .i64 0, .int .i64 0, .string (⟨#[]⟩ : ByteArray)] 30 (0, 0)) zcj_14 hb)
 have n5_ := Aside0.mk (KeepBut.trans zcj_10 (KeepBut.of_below hb g none) (.inl rfl))
 have n6_ := Aside0.mk (below_step zcj_11 hb)
 clear HI0
 clear BK360
 clear BK361
 clear BK370
 clear HK
 clear HB
 have HO364 := n0_
 have HI0 := n1_
 have BK360 := n2_
 have BK361 := n3_
 have BK370 := n4_
 have HK := n5_
 have HB := n6_
 clear n0_ n1_ n2_ n3_ n4_ n5_ n6_
 clear hb ho17
 obtain ⟨Ao18, co18, eo18⟩ := Kd.R_slice HO364.out
 subst eo18
 obtain ⟨ado18, fo18, _⟩ := Kd.at_int (Kd.R_reads' HO364.out).2.2 0 (by decide) (by rw [Ny362.out]; simp)
 cases fo18
 refine hK.out _ _ trivial (fun hHeld => ?_)
 clear hK K
 refine norm_ (a' := ?_) ?_ ?_
 rotate_left
 {exact zcj_77}
 refine pure_ (i := 3) (N := some 10) (v := ?_) (a' := ?_) #[true, true, true, true, false, true, false, false, false, false, false, true, false] rfl rfl (any_of HT_.out (by kernel_rfl)) (fun _ _ _ h => h) (Or.inl ⟨by rfl, ?_⟩) ?_ ?_
 rotate_left
 {
 intro w'
 go_simp
 with_reducible rfl
 }
 rotate_left
 {exact zcj_1}
 exact norm_ (by first | (simp only [putAll, Act.put, List.setIfInBounds_toArray, List.set_cons_zero, List.set_cons_succ]; done) | (simp only [putAll, Act.put, List.setIfInBounds_toArray, List.set_cons_zero, List.set_cons_succ]; rfl)) (hJ0_2_11 (.slice (some ado18) y362.length co18, ado18, gb370) _ ⟨zcj_16, ⟨_, rfl⟩, zcj_6, zcj_7, zcj_14, GW370.out, GE370.out, NB0_370.out, NB370_0.out, NB360_370.out, NB370_360.out, NB361_370.out, NB370_361.out, zcj_8, zcj_10, zcj_11⟩)
 }
 {
 skip
 refine goes_ Tryd.func34 (by kernel_rfl) rfl #[.pointer (some ⟨g, 0, none⟩), .int .i64 60] (by rfl) rfl rfl zcj_3 ?_
 with_reducible refine (spec_l20Rd_pick.calls k g s0_0 t366 60 t368 t369 w0 _ ?side1 ?side2 A6.out).mono ?_
 (case side1 => exact zcj_8)
 (case side2 => exact zcj_11)
 rintro e w16 ⟨rfl, hi, hb, hk⟩
 refine ⟨_, rfl, ?_⟩
 refine zcj_f26 ?_
 clear BK360
 clear BK361
 clear BK370
 clear HK
 clear HB
 clear HI0
 intro BK360 BK361 BK370 HK HB HI0
 (try clear hb)
 (try clear hb2)
 (try clear hk)
 (try clear hi)
 refine hK.out _ _ trivial (fun hHeld => ?_)
 clear hK K
 refine norm_ (a' := ?_) ?_ ?_
 rotate_left
 {exact zcj_50}
 refine pure_ (i := 7) (N := some 14) (v := ?_) (a' := ?_) #[false, true, true, false, false, true, true, true, false, false, false, true, false] rfl rfl (any_of HT_.out (by kernel_rfl)) (fun _ _ _ h => h) (Or.inl ⟨by rfl, ?_⟩) ?_ ?_
 rotate_left
 {
 intro w'
 go_simp
 with_reducible rfl
 }
 rotate_left
 {exact zcj_1}
 refine pure_ (i := 8) (N := some 15) (v := ?_) (a' := ?_) #[false, true, true, false, false, true, true, true, true, false, false, true, false] rfl rfl (any_of HT_.out (by kernel_rfl)) (fun _ _ _ h => h) (Or.inl ⟨by rfl, ?_⟩) ?_ ?_
 rotate_left
 {
 intro w'
 go_simp
 with_reducible rfl
 }
 rotate_left
 {exact zcj_1}
 exact norm_ (by first | (simp only [putAll, Act.put, List.setIfInBounds_toArray, List.set_cons_zero, List.set_cons_succ]; done) | (simp only [putAll, Act.put, List.setIfInBounds_toArray, List.set_cons_zero, List.set_cons_succ]; rfl)) (hJ2_6_11 (gb370) _ ⟨zcj_6, zcj_7, zcj_14, GW370.out, GE370.out, NB0_370.out, NB370_0.out, NB360_370.out, NB370_360.out, NB361_370.out, NB370_361.out, zcj_8, zcj_10, zcj_11⟩)
 }
 }
 }
 {
 skip
 rintro _ w15 ⟨h0_, h1_, h2_, h3_, h4_⟩
 have n0_ : Aside0 (w15.heap[gb360]? = some (.cells #[.int .i64 a1_0, .slice A1_1 l1_1.length c1_1, .slice A1_2 l1_2.length c1_2] 50 (0, 0))) := ⟨h0_⟩
 have n1_ : Aside0 (w15.heap[gb361]? = some (.cells #[.int .i64 0, .int .i64 0, .int .i64 0, .string (⟨#[]⟩ : ByteArray)] 30 (0, 0))) := ⟨h1_⟩
 have n2_ : Aside0 (IsS63 w0 w15 g s0_0 t369) := ⟨h2_⟩
 have n3_ : Aside0 (KeepBut w w15 g none) := ⟨h3_⟩
 have n4_ : Aside0 (Below w0.heap.size w0 w15) := ⟨h4_⟩
 clear BK360
 clear BK361
 clear HI0
 clear HK
 clear HB
 clear h0_ h1_ h2_ h3_ h4_
 have BK360 := n0_
 have BK361 := n1_
 have HI0 := n2_
 have HK := n3_
 have HB := n4_
 clear n0_ n1_ n2_ n3_ n4_
 have hHeld := trivial
 refine norm_ (a' := ?_) ?_ ?_
 rotate_left
 {exact zcj_33}
 refine two_ (i := 0) (j := 11) (Ni := some 7) (Nj := some 5) #[true, true, true, false, false, true, true, true, true, false, false, false, false] #[false, true, true, false, false, true, true, true, true, false, false, true, false] rfl rfl rfl rfl (two_of HT_.out (by kernel_rfl)) (by decide) (by decide) (fun K hK => ?_) (fun K hK => ?_)
 {
 skip
 refine Kd.R_lit_step (Kd.int .i64) _ 3 ?hg (N := 7) ?hd (xs := ([0, 1, 2, 2, 2, 2, 3, 4] : List Int)) (inner := [.int .i64 0, .int .i64 1, .int .i64 2, .int .i64 2, .int .i64 2, .int .i64 2, .int .i64 3, .int .i64 4]) (ok := fun _ => True) (okp := fun _ => True) ?hr ?hp (fun _ hk => hk) trivial (Below.refl _ _) (Nat.le_refl _) (by simp) ?_; (case hd => rfl); (case hg => rfl); (case hr => exact zcj_12); (case hp => exact zcj_76)
 intro v363 w16 ho17 hb hg_ hnew_
 clear hg_ hnew_
 (first | rw [← Ny362.out] at ho17 | (simp only [Int.reduceToNat] at ho17; rw [← Ny362.out] at ho17))
 have n0_ := Aside0.mk (Kd.R_lower ho17 (keep_size (w := w) (g := g) (row := none) zcj_18))
 have n1_ := Aside0.mk (IsS63.below zcj_23 hb)
 have n2_ := Aside0.mk (blk_below (g := gb360) (o := .cells #[.int .i64 a1_0, .slice A1_1 l1_1.length c1_1, .slice A1_2 l1_2.length c1_2] 50 (0, 0)) zcj_6 hb)
 have n3_ := Aside0.mk (blk_below (g := gb361) (o := .cells #[.int .i64 0, .int .i64 0, .int .i64 0, .string (⟨#[]⟩ : ByteArray)] 30 (0, 0)) zcj_7 hb)
 have n4_ := Aside0.mk (KeepBut.trans zcj_18 (KeepBut.of_below hb g none) (.inl rfl))
 have n5_ := Aside0.mk (below_step zcj_24 hb)
 clear HI0
 clear BK360
 clear BK361
 clear HK
 clear HB
 have HO364 := n0_
 have HI0 := n1_
 have BK360 := n2_
 have BK361 := n3_
 have HK := n4_
 have HB := n5_
 clear n0_ n1_ n2_ n3_ n4_ n5_
 clear hb ho17
 obtain ⟨Ao18, co18, eo18⟩ := Kd.R_slice HO364.out
 subst eo18
 obtain ⟨ado18, fo18, _⟩ := Kd.at_int (Kd.R_reads' HO364.out).2.2 0 (by decide) (by rw [Ny362.out]; simp)
 cases fo18
 refine hK.out _ _ trivial (fun hHeld => ?_)
 clear hK K
 refine norm_ (a' := ?_) ?_ ?_
 rotate_left
 {exact zcj_77}
 refine pure_ (i := 3) (N := some 10) (v := ?_) (a' := ?_) #[true, true, true, true, false, true, true, true, true, false, false, false, false] rfl rfl (any_of HT_.out (by kernel_rfl)) (fun _ _ _ h => h) (Or.inl ⟨by rfl, ?_⟩) ?_ ?_
 rotate_left
 {
 intro w'
 go_simp
 with_reducible rfl
 }
 rotate_left
 {exact zcj_1}
 exact norm_ (by first | (simp only [putAll, Act.put, List.setIfInBounds_toArray, List.set_cons_zero, List.set_cons_succ]; done) | (simp only [putAll, Act.put, List.setIfInBounds_toArray, List.set_cons_zero, List.set_cons_succ]; rfl)) (hJ0_2_6 (.slice (some ado18) y362.length co18, ado18) _ ⟨zcj_16, ⟨_, rfl⟩, zcj_6, zcj_7, zcj_23, zcj_18, zcj_24⟩)
 }
 {
 skip
 refine box_step ?hg (N := 5) ?hd (cs := #[.int .i64 0, .int .i64 0, .int .i64 0, .string (⟨#[]⟩ : ByteArray)]) (t := 30) ?hr ?_; (case hd => rfl); (case hg => rfl); (case hr => exact zcj_12)
 intro gb370 hg w16 hbox hb
 have n0_ := Aside0.mk (IsS63.below zcj_23 hb)
 have n1_ := Aside0.mk (blk_below (g := gb360) (o := .cells #[.int .i64 a1_0, .slice A1_1 l1_1.length c1_1, .slice A1_2 l1_2.length c1_2] 50 (0, 0)) zcj_6 hb)
 have n2_ := Aside0.mk (blk_below (g := gb361) (o := .cells #[.int .i64 0, .int .i64 0, .int .i64 0, .string (⟨#[]⟩ : ByteArray)] 30 (0, 0)) zcj_7 hb)
 have n3_ := Aside0.mk (KeepBut.trans zcj_18 (KeepBut.of_below hb g none) (.inl rfl))
 have n4_ := Aside0.mk (below_step zcj_24 hb)
 have n5_ := Aside0.mk (hbox)
 have n6_ := Aside0.mk ((zcj_41 : w.heap.size ≤ gb370))
 have n7_ := Aside0.mk ((Nat.le_trans HW0.out (zcj_41 : w.heap.size ≤ gb370) : w0.heap.size ≤ gb370))
 have n8_ := Aside0.mk ((zcj_60 : gb360 ≠ gb370))
 have n9_ := Aside0.mk ((zcj_61 : gb370 ≠ gb360))
 have n10_ := Aside0.mk ((zcj_78 : gb361 ≠ gb370))
 have n11_ := Aside0.mk ((zcj_79 : gb370 ≠ gb361))
 have n12_ := Aside0.mk ((zcj_157 : g ≠ gb370))
 have n13_ := Aside0.mk ((zcj_158 : gb370 ≠ g))
 clear HI0
 clear BK360
 clear BK361
 clear HK
 clear HB
 have HI0 := n0_
 have BK360 := n1_
 have BK361 := n2_
 have HK := n3_
 have HB := n4_
 have BK370 := n5_
 have GW370 := n6_
 have GE370 := n7_
 have NB360_370 := n8_
 have NB370_360 := n9_
 have NB361_370 := n10_
 have NB370_361 := n11_
 have NB0_370 := n12_
 have NB370_0 := n13_
 clear n0_ n1_ n2_ n3_ n4_ n5_ n6_ n7_ n8_ n9_ n10_ n11_ n12_ n13_
 clear hb hbox hg
 refine hK.out _ _ trivial (fun hHeld => ?_)
 clear hK K
 refine norm_ (a' := ?_) ?_ ?_
 rotate_left
 {exact zcj_55}
 exact norm_ (by first | (simp only [putAll, Act.put, List.setIfInBounds_toArray, List.set_cons_zero, List.set_cons_succ]; done) | (simp only [putAll, Act.put, List.setIfInBounds_toArray, List.set_cons_zero, List.set_cons_succ]; rfl)) (hJ2_6_11 (gb370) _ ⟨zcj_6, zcj_7, zcj_14, GW370.out, GE370.out, NB0_370.out, NB370_0.out, NB360_370.out, NB370_360.out, NB361_370.out, NB370_361.out, zcj_8, zcj_10, zcj_11⟩)
 }
 }
 }
 {
 skip
 rintro ⟨v363, adz_v363, gb370⟩ w17 ⟨h0_, h1_, h2_, h3_, h4_, h5_, h6_, h7_, h8_, h9_, h10_, h11_, h12_, h13_, h14_, h15_⟩
 have n0_ : Aside0 (Kd.R (Kd.int .i64) 3 w17 w.heap.size (fun _ => True) v363 y362) := ⟨h0_⟩
 have n1_ : Aside0 (∃ c_, (v363 : Value) = .slice (some adz_v363) y362.length c_) := ⟨h1_⟩
 have n2_ : Aside0 (w17.heap[gb360]? = some (.cells #[.int .i64 a1_0, .slice A1_1 l1_1.length c1_1, .slice A1_2 l1_2.length c1_2] 50 (0, 0))) := ⟨h2_⟩
 have n3_ : Aside0 (w17.heap[gb361]? = some (.cells #[.int .i64 0, .int .i64 0, .int .i64 0, .string (⟨#[]⟩ : ByteArray)] 30 (0, 0))) := ⟨h3_⟩
 have n4_ : Aside0 (w17.heap[gb370]? = some (.cells #[.int .i64 0, .int .i64 0, .int .i64 0, .string (⟨#[]⟩ : ByteArray)] 30 (0, 0))) := ⟨h4_⟩
 have n5_ : Aside0 (w.heap.size ≤ gb370) := ⟨h5_⟩
 have n6_ : Aside0 (w0.heap.size ≤ gb370) := ⟨h6_⟩
 have n7_ : Aside0 (g ≠ gb370) := ⟨h7_⟩
 have n8_ : Aside0 (gb370 ≠ g) := ⟨h8_⟩
 have n9_ : Aside0 (gb360 ≠ gb370) := ⟨h9_⟩
 have n10_ : Aside0 (gb370 ≠ gb360) := ⟨h10_⟩
 have n11_ : Aside0 (gb361 ≠ gb370) := ⟨h11_⟩
 have n12_ : Aside0 (gb370 ≠ gb361) := ⟨h12_⟩
 have n13_ : Aside0 (IsS63 w0 w17 g s0_0 s0_1) := ⟨h13_⟩
 have n14_ : Aside0 (KeepBut w w17 g none) := ⟨h14_⟩
 have n15_ : Aside0 (Below w0.heap.size w0 w17) := ⟨h15_⟩
 clear BK360
 clear BK361
 clear HI0
 clear HK
 clear HB
 clear h0_ h1_ h2_ h3_ h4_ h5_ h6_ h7_ h8_ h9_ h10_ h11_ h12_ h13_ h14_ h15_
 have HO364 := n0_
 have HA_HO364 := n1_
 have BK360 := n2_
 have BK361 := n3_
 have BK370 := n4_
 have GW370 := n5_
 have GE370 := n6_
 have NB0_370 := n7_
 have NB370_0 := n8_
 have NB360_370 := n9_
 have NB370_360 := n10_
 have NB361_370 := n11_
 have NB370_361 := n12_
 have HI0 := n13_
 have HK := n14_
 have HB := n15_
 clear n0_ n1_ n2_ n3_ n4_ n5_ n6_ n7_ n8_ n9_ n10_ n11_ n12_ n13_ n14_ n15_
 have hHeld := trivial
 obtain ⟨co18, eo18⟩ := HA_HO364.out
 clear HA_HO364
 subst eo18
 refine norm_ (a' := ?_) ?_ ?_
 rotate_left
 {exact zcj_33}
 refine one_ (i := 2) (N := some 9) #[true, true, true, false, false, true, false, false, false, false, false, true, false] rfl rfl (one_of HT_.out (by kernel_rfl)) (by decide) (fun K hK => ?_)
 refine goes_ Tryd.func34 (by kernel_rfl) rfl #[.pointer (some ⟨g, 0, none⟩), .int .i64 8] (by rfl) rfl rfl zcj_3 ?_
 with_reducible refine (spec_l20Rd_pick.calls k g s0_0 s0_1 8 t365 t366 w0 _ ?side1 ?side2 A3.out).mono ?_
 (case side1 => exact zcj_8)
 (case side2 => exact zcj_11)
 rintro e w19 ⟨rfl, hi, hb, hk⟩
 refine ⟨_, rfl, ?_⟩
 have n0_ := Aside0.mk (KeepBut.blk hk (g' := gb360) (o := .cells #[.int .i64 a1_0, .slice A1_1 l1_1.length c1_1, .slice A1_2 l1_2.length c1_2] 50 (0, 0)) zcj_6 NB360_0.out (by simp))
 have n1_ := Aside0.mk (KeepBut.blk hk (g' := gb361) (o := .cells #[.int .i64 0, .int .i64 0, .int .i64 0, .string (⟨#[]⟩ : ByteArray)] 30 (0, 0)) zcj_7 NB361_0.out (by simp))
 have n2_ := Aside0.mk (Kd.R_mono (Kd.R_keep (IsS63.apart (show IsS63 w0 _ g s0_0 s0_1 from by repeat (first | (with_reducible first | exact HI0.out | apply IsS63.alloc | apply IsS63.drewN | apply IsS63.drew | apply IsS63.set_1 | refine IsS63.far ?_ NB0_360.out _ | refine IsS63.far ?_ NB0_361.out _ | refine IsS63.far ?_ NB0_370.out _) | exact HI0.out)) zcj_16 (by decide)) hk (fun _ h => h.2)) (fun _ h => h.1))
 have n3_ := Aside0.mk (KeepBut.blk hk (g' := gb370) (o := .cells #[.int .i64 0, .int .i64 0, .int .i64 0, .string (⟨#[]⟩ : ByteArray)] 30 (0, 0)) zcj_14 NB370_0.out (by simp))
 have n4_ := Aside0.mk (KeepBut.trans zcj_10 hk (.inl rfl))
 have n5_ := Aside0.mk (hb)
 have n6_ := Aside0.mk (hi)
 clear BK360
 clear BK361
 clear HO364
 clear BK370
 clear HK
 clear HB
 clear HI0
 have BK360 := n0_
 have BK361 := n1_
 have HO364 := n2_
 have BK370 := n3_
 have HK := n4_
 have HB := n5_
 have HI0 := n6_
 clear n0_ n1_ n2_ n3_ n4_ n5_ n6_
 (try clear hb)
 (try clear hb2)
 (try clear hk)
 (try clear hi)
 refine hK.out _ _ trivial (fun hHeld => ?_)
 clear hK K
 refine norm_ (a' := ?_) ?_ ?_
 rotate_left
 {exact zcj_99}
 refine pure_ (i := 3) (N := some 10) (v := ?_) (a' := ?_) #[true, true, true, true, false, true, false, false, false, false, false, true, false] rfl rfl (any_of HT_.out (by kernel_rfl)) (fun _ _ _ h => h) (Or.inl ⟨by rfl, ?_⟩) ?_ ?_
 rotate_left
 {
 intro w'
 go_simp
 with_reducible rfl
 }
 rotate_left
 {exact zcj_1}
 exact norm_ (by first | (simp only [putAll, Act.put, List.setIfInBounds_toArray, List.set_cons_zero, List.set_cons_succ]; done) | (simp only [putAll, Act.put, List.setIfInBounds_toArray, List.set_cons_zero, List.set_cons_succ]; rfl)) (hJ0_2_11 (.slice (some adz_v363) y362.length co18, adz_v363, gb370) _ ⟨zcj_16, ⟨_, rfl⟩, zcj_6, zcj_7, zcj_14, GW370.out, GE370.out, NB0_370.out, NB370_0.out, NB360_370.out, NB370_360.out, NB361_370.out, NB370_361.out, zcj_8, zcj_10, zcj_11⟩)
 }
 }
 {
 skip
 rintro ⟨v363, adz_v363⟩ w17 ⟨h0_, h1_, h2_, h3_, h4_, h5_, h6_⟩
 have n0_ : Aside0 (Kd.R (Kd.int .i64) 3 w17 w.heap.size (fun _ => True) v363 y362) := ⟨h0_⟩
 have n1_ : Aside0 (∃ c_, (v363 : Value) = .slice (some adz_v363) y362.length c_) := ⟨h1_⟩
 have n2_ : Aside0 (w17.heap[gb360]? = some (.cells #[.int .i64 a1_0, .slice A1_1 l1_1.length c1_1, .slice A1_2 l1_2.length c1_2] 50 (0, 0))) := ⟨h2_⟩
 have n3_ : Aside0 (w17.heap[gb361]? = some (.cells #[.int .i64 0, .int .i64 0, .int .i64 0, .string (⟨#[]⟩ : ByteArray)] 30 (0, 0))) := ⟨h3_⟩
 have n4_ : Aside0 (IsS63 w0 w17 g s0_0 t366) := ⟨h4_⟩
 have n5_ : Aside0 (KeepBut w w17 g none) := ⟨h5_⟩
 have n6_ : Aside0 (Below w0.heap.size w0 w17) := ⟨h6_⟩
 clear BK360
 clear BK361
 clear HI0
 clear HK
 clear HB
 clear h0_ h1_ h2_ h3_ h4_ h5_ h6_
 have HO364 := n0_
 have HA_HO364 := n1_
 have BK360 := n2_
 have BK361 := n3_
 have HI0 := n4_
 have HK := n5_
 have HB := n6_
 clear n0_ n1_ n2_ n3_ n4_ n5_ n6_
 have hHeld := trivial
 obtain ⟨co18, eo18⟩ := HA_HO364.out
 clear HA_HO364
 subst eo18
 refine norm_ (a' := ?_) ?_ ?_
 rotate_left
 {exact zcj_33}
 refine three_ (i := 4) (j := 6) (k := 11) (Ni := some 11) (Nj := some 13) (Nk := some 5) #[true, true, true, true, true, true, false, false, false, false, false, false, false] #[true, true, true, true, false, true, true, false, false, false, false, false, false] #[true, true, true, true, false, true, false, false, false, false, false, true, false] rfl rfl rfl rfl rfl rfl (three_of HT_.out (by kernel_rfl)) (by decide) (by decide) (by decide) (fun K hK => ?_) (fun K hK => ?_) (fun K hK => ?_)
 {
 skip
 (have p367 : 0 ≤ (t365 : Int) := of_decide_eq_true zcj_2; have q367 : t365 < (y362.length : Int) := of_decide_eq_true zcj_2; obtain ⟨ad367, e367, hx367_0⟩ := Kd.at_int (Kd.R_reads' HO364.out).2.2 t365 p367 q367; obtain rfl : adz_v363 = ad367 := (by injection e367))
 refine value_ (w1 := ?_) (v := ?_) (by rfl) rfl ?_ ?_
 rotate_left 2
 {
 go_simp
 constructor
 {rfl}
 {rfl}
 }
 clear hx367_0
 refine hK.out _ _ trivial (fun hHeld => ?_)
 clear hK K
 refine norm_ (a' := ?_) ?_ ?_
 rotate_left
 {exact zcj_100}
 exact norm_ (by first | (simp only [putAll, Act.put, List.setIfInBounds_toArray, List.set_cons_zero, List.set_cons_succ]; done) | (simp only [putAll, Act.put, List.setIfInBounds_toArray, List.set_cons_zero, List.set_cons_succ]; rfl)) (hJ0_2_4 (.slice (some adz_v363) y362.length co18, adz_v363) _ ⟨zcj_16, ⟨_, rfl⟩, zcj_6, zcj_7, zcj_23, zcj_18, zcj_24⟩)
 }
 {
 skip
 refine goes_ Tryd.func34 (by kernel_rfl) rfl #[.pointer (some ⟨g, 0, none⟩), .int .i64 60] (by rfl) rfl rfl zcj_3 ?_
 with_reducible refine (spec_l20Rd_pick.calls k g s0_0 t366 60 t368 t369 w0 _ ?side1 ?side2 A6.out).mono ?_
 (case side1 => exact zcj_23)
 (case side2 => exact zcj_24)
 rintro e w19 ⟨rfl, hi, hb, hk⟩
 refine ⟨_, rfl, ?_⟩
 refine zcj_f27 ?_
 clear BK360
 clear BK361
 clear HO364
 clear HK
 clear HB
 clear HI0
 intro BK360 BK361 HO364 HK HB HI0
 (try clear hb)
 (try clear hb2)
 (try clear hk)
 (try clear hi)
 refine hK.out _ _ trivial (fun hHeld => ?_)
 clear hK K
 refine norm_ (a' := ?_) ?_ ?_
 rotate_left
 {exact zcj_50}
 refine pure_ (i := 7) (N := some 14) (v := ?_) (a' := ?_) #[true, true, true, true, false, true, true, true, false, false, false, false, false] rfl rfl (any_of HT_.out (by kernel_rfl)) (fun _ _ _ h => h) (Or.inl ⟨by rfl, ?_⟩) ?_ ?_
 rotate_left
 {
 intro w'
 go_simp
 with_reducible rfl
 }
 rotate_left
 {exact zcj_1}
 refine pure_ (i := 8) (N := some 15) (v := ?_) (a' := ?_) #[true, true, true, true, false, true, true, true, true, false, false, false, false] rfl rfl (any_of HT_.out (by kernel_rfl)) (fun _ _ _ h => h) (Or.inl ⟨by rfl, ?_⟩) ?_ ?_
 rotate_left
 {
 intro w'
 go_simp
 with_reducible rfl
 }
 rotate_left
 {exact zcj_1}
 exact norm_ (by first | (simp only [putAll, Act.put, List.setIfInBounds_toArray, List.set_cons_zero, List.set_cons_succ]; done) | (simp only [putAll, Act.put, List.setIfInBounds_toArray, List.set_cons_zero, List.set_cons_succ]; rfl)) (hJ0_2_6 (.slice (some adz_v363) y362.length co18, adz_v363) _ ⟨zcj_16, ⟨_, rfl⟩, zcj_6, zcj_7, zcj_23, zcj_18, zcj_24⟩)
 }
 {
 skip
 refine box_step ?hg (N := 5) ?hd (cs := #[.int .i64 0, .int .i64 0, .int .i64 0, .string (⟨#[]⟩ : ByteArray)]) (t := 30) ?hr ?_; (case hd => rfl); (case hg => rfl); (case hr => exact zcj_12)
 intro gb370 hg w19 hbox hb
 refine zcj_f28 ?_
 clear HO364
 clear HI0
 clear BK360
 clear BK361
 clear HK
 clear HB
 intro HO364 HI0 BK360 BK361 HK HB BK370 GW370 GE370 NB360_370 NB370_360 NB361_370 NB370_361 NB0_370 NB370_0
 clear hb hbox hg
 refine hK.out _ _ trivial (fun hHeld => ?_)
 clear hK K
 refine norm_ (a' := ?_) ?_ ?_
 rotate_left
 {exact zcj_55}
 exact norm_ (by first | (simp only [putAll, Act.put, List.setIfInBounds_toArray, List.set_cons_zero, List.set_cons_succ]; done) | (simp only [putAll, Act.put, List.setIfInBounds_toArray, List.set_cons_zero, List.set_cons_succ]; rfl)) (hJ0_2_11 (.slice (some adz_v363) y362.length co18, adz_v363, gb370) _ ⟨zcj_16, ⟨_, rfl⟩, zcj_6, zcj_7, zcj_14, GW370.out, GE370.out, NB0_370.out, NB370_0.out, NB360_370.out, NB370_360.out, NB361_370.out, NB370_361.out, zcj_8, zcj_10, zcj_11⟩)
 }
 }
 }
 {
 skip
 rintro gb370 w16 ⟨h0_, h1_, h2_, h3_, h4_, h5_, h6_, h7_, h8_, h9_, h10_, h11_, h12_, h13_⟩
 have n0_ : Aside0 (w16.heap[gb360]? = some (.cells #[.int .i64 a1_0, .slice A1_1 l1_1.length c1_1, .slice A1_2 l1_2.length c1_2] 50 (0, 0))) := ⟨h0_⟩
 have n1_ : Aside0 (w16.heap[gb361]? = some (.cells #[.int .i64 0, .int .i64 0, .int .i64 0, .string (⟨#[]⟩ : ByteArray)] 30 (0, 0))) := ⟨h1_⟩
 have n2_ : Aside0 (w16.heap[gb370]? = some (.cells #[.int .i64 0, .int .i64 0, .int .i64 0, .string (⟨#[]⟩ : ByteArray)] 30 (0, 0))) := ⟨h2_⟩
 have n3_ : Aside0 (w.heap.size ≤ gb370) := ⟨h3_⟩
 have n4_ : Aside0 (w0.heap.size ≤ gb370) := ⟨h4_⟩
 have n5_ : Aside0 (g ≠ gb370) := ⟨h5_⟩
 have n6_ : Aside0 (gb370 ≠ g) := ⟨h6_⟩
 have n7_ : Aside0 (gb360 ≠ gb370) := ⟨h7_⟩
 have n8_ : Aside0 (gb370 ≠ gb360) := ⟨h8_⟩
 have n9_ : Aside0 (gb361 ≠ gb370) := ⟨h9_⟩
 have n10_ : Aside0 (gb370 ≠ gb361) := ⟨h10_⟩
 have n11_ : Aside0 (IsS63 w0 w16 g s0_0 t369) := ⟨h11_⟩
 have n12_ : Aside0 (KeepBut w w16 g none) := ⟨h12_⟩
 have n13_ : Aside0 (Below w0.heap.size w0 w16) := ⟨h13_⟩
 clear BK360
 clear BK361
 clear HI0
 clear HK
 clear HB
 clear h0_ h1_ h2_ h3_ h4_ h5_ h6_ h7_ h8_ h9_ h10_ h11_ h12_ h13_
 have BK360 := n0_
 have BK361 := n1_
 have BK370 := n2_
 have GW370 := n3_
 have GE370 := n4_
 have NB0_370 := n5_
 have NB370_0 := n6_
 have NB360_370 := n7_
 have NB370_360 := n8_
 have NB361_370 := n9_
 have NB370_361 := n10_
 have HI0 := n11_
 have HK := n12_
 have HB := n13_
 clear n0_ n1_ n2_ n3_ n4_ n5_ n6_ n7_ n8_ n9_ n10_ n11_ n12_ n13_
 have hHeld := trivial
 refine norm_ (a' := ?_) ?_ ?_
 rotate_left
 {exact zcj_33}
 refine one_ (i := 0) (N := some 7) #[true, true, true, false, false, true, true, true, true, false, false, true, false] rfl rfl (one_of HT_.out (by kernel_rfl)) (by decide) (fun K hK => ?_)
 refine Kd.R_lit_step (Kd.int .i64) _ 3 ?hg (N := 7) ?hd (xs := ([0, 1, 2, 2, 2, 2, 3, 4] : List Int)) (inner := [.int .i64 0, .int .i64 1, .int .i64 2, .int .i64 2, .int .i64 2, .int .i64 2, .int .i64 3, .int .i64 4]) (ok := fun _ => True) (okp := fun _ => True) ?hr ?hp (fun _ hk => hk) trivial (Below.refl _ _) (Nat.le_refl _) (by simp) ?_; (case hd => rfl); (case hg => rfl); (case hr => exact zcj_12); (case hp => exact zcj_76)
 intro v363 w17 ho18 hb hg_ hnew_
 clear hg_ hnew_
 (first | rw [← Ny362.out] at ho18 | (simp only [Int.reduceToNat] at ho18; rw [← Ny362.out] at ho18))
 have n0_ := Aside0.mk (Kd.R_lower ho18 (keep_size (w := w) (g := g) (row := none) zcj_10))
 have n1_ := Aside0.mk (IsS63.below zcj_8 hb)
 have n2_ := Aside0.mk (blk_below (g := gb360) (o := .cells #[.int .i64 a1_0, .slice A1_1 l1_1.length c1_1, .slice A1_2 l1_2.length c1_2] 50 (0, 0)) zcj_6 hb)
 have n3_ := Aside0.mk (blk_below (g := gb361) (o := .cells #[.int .i64 0, .int .i64 0, .int .i64 0, .string (⟨#[]⟩ : ByteArray)] 30 (0, 0)) zcj_7 hb)
 have n4_ := Aside0.mk (blk_below (g := gb370) (o := .cells #[.int .i64 0, .int .i64 0, .int .i64 0, .string (⟨#[]⟩ : ByteArray)] 30 (0, 0)) zcj_14 hb)
 have n5_ := Aside0.mk (KeepBut.trans zcj_10 (KeepBut.of_below hb g none) (.inl rfl))
 have n6_ := Aside0.mk (below_step zcj_11 hb)
 clear HI0
 clear BK360
 clear BK361
 clear BK370
 clear HK
 clear HB
 have HO364 := n0_
 have HI0 := n1_
 have BK360 := n2_
 have BK361 := n3_
 have BK370 := n4_
 have HK := n5_
 have HB := n6_
 clear n0_ n1_ n2_ n3_ n4_ n5_ n6_
 clear hb ho18
 obtain ⟨Ao19, co19, eo19⟩ := Kd.R_slice HO364.out
 subst eo19
 obtain ⟨ado19, fo19, _⟩ := Kd.at_int (Kd.R_reads' HO364.out).2.2 0 (by decide) (by rw [Ny362.out]; simp)
 cases fo19
 refine hK.out _ _ trivial (fun hHeld => ?_)
 clear hK K
 refine norm_ (a' := ?_) ?_ ?_
 rotate_left
 {exact zcj_77}
 refine pure_ (i := 3) (N := some 10) (v := ?_) (a' := ?_) #[true, true, true, true, false, true, true, true, true, false, false, true, false] rfl rfl (any_of HT_.out (by kernel_rfl)) (fun _ _ _ h => h) (Or.inl ⟨by rfl, ?_⟩) ?_ ?_
 rotate_left
 {
 intro w'
 go_simp
 with_reducible rfl
 }
 rotate_left
 {exact zcj_1}
 exact norm_ (by first | (simp only [putAll, Act.put, List.setIfInBounds_toArray, List.set_cons_zero, List.set_cons_succ]; done) | (simp only [putAll, Act.put, List.setIfInBounds_toArray, List.set_cons_zero, List.set_cons_succ]; rfl)) (hJ0_2_6_11 (.slice (some ado19) y362.length co19, ado19, gb370) _ ⟨zcj_16, ⟨_, rfl⟩, zcj_6, zcj_7, zcj_14, GW370.out, GE370.out, NB0_370.out, NB370_0.out, NB360_370.out, NB370_360.out, NB361_370.out, NB370_361.out, zcj_8, zcj_10, zcj_11⟩)
 }
 }
 {
 skip
 rintro ⟨v363, adz_v363, gb370⟩ w18 ⟨h0_, h1_, h2_, h3_, h4_, h5_, h6_, h7_, h8_, h9_, h10_, h11_, h12_, h13_, h14_, h15_⟩
 have n0_ : Aside0 (Kd.R (Kd.int .i64) 3 w18 w.heap.size (fun _ => True) v363 y362) := ⟨h0_⟩
 have n1_ : Aside0 (∃ c_, (v363 : Value) = .slice (some adz_v363) y362.length c_) := ⟨h1_⟩
 have n2_ : Aside0 (w18.heap[gb360]? = some (.cells #[.int .i64 a1_0, .slice A1_1 l1_1.length c1_1, .slice A1_2 l1_2.length c1_2] 50 (0, 0))) := ⟨h2_⟩
 have n3_ : Aside0 (w18.heap[gb361]? = some (.cells #[.int .i64 0, .int .i64 0, .int .i64 0, .string (⟨#[]⟩ : ByteArray)] 30 (0, 0))) := ⟨h3_⟩
 have n4_ : Aside0 (w18.heap[gb370]? = some (.cells #[.int .i64 0, .int .i64 0, .int .i64 0, .string (⟨#[]⟩ : ByteArray)] 30 (0, 0))) := ⟨h4_⟩
 have n5_ : Aside0 (w.heap.size ≤ gb370) := ⟨h5_⟩
 have n6_ : Aside0 (w0.heap.size ≤ gb370) := ⟨h6_⟩
 have n7_ : Aside0 (g ≠ gb370) := ⟨h7_⟩
 have n8_ : Aside0 (gb370 ≠ g) := ⟨h8_⟩
 have n9_ : Aside0 (gb360 ≠ gb370) := ⟨h9_⟩
 have n10_ : Aside0 (gb370 ≠ gb360) := ⟨h10_⟩
 have n11_ : Aside0 (gb361 ≠ gb370) := ⟨h11_⟩
 have n12_ : Aside0 (gb370 ≠ gb361) := ⟨h12_⟩
 have n13_ : Aside0 (IsS63 w0 w18 g s0_0 t366) := ⟨h13_⟩
 have n14_ : Aside0 (KeepBut w w18 g none) := ⟨h14_⟩
 have n15_ : Aside0 (Below w0.heap.size w0 w18) := ⟨h15_⟩
 clear BK360
 clear BK361
 clear HI0
 clear HK
 clear HB
 clear h0_ h1_ h2_ h3_ h4_ h5_ h6_ h7_ h8_ h9_ h10_ h11_ h12_ h13_ h14_ h15_
 have HO364 := n0_
 have HA_HO364 := n1_
 have BK360 := n2_
 have BK361 := n3_
 have BK370 := n4_
 have GW370 := n5_
 have GE370 := n6_
 have NB0_370 := n7_
 have NB370_0 := n8_
 have NB360_370 := n9_
 have NB370_360 := n10_
 have NB361_370 := n11_
 have NB370_361 := n12_
 have HI0 := n13_
 have HK := n14_
 have HB := n15_
 clear n0_ n1_ n2_ n3_ n4_ n5_ n6_ n7_ n8_ n9_ n10_ n11_ n12_ n13_ n14_ n15_
 have hHeld := trivial
 obtain ⟨co19, eo19⟩ := HA_HO364.out
 clear HA_HO364
 subst eo19
 refine norm_ (a' := ?_) ?_ ?_
 rotate_left
 {exact zcj_33}
 refine two_ (i := 4) (j := 6) (Ni := some 11) (Nj := some 13) #[true, true, true, true, true, true, false, false, false, false, false, true, false] #[true, true, true, true, false, true, true, false, false, false, false, true, false] rfl rfl rfl rfl (two_of HT_.out (by kernel_rfl)) (by decide) (by decide) (fun K hK => ?_) (fun K hK => ?_)
 {
 skip
 (have p367 : 0 ≤ (t365 : Int) := of_decide_eq_true zcj_2; have q367 : t365 < (y362.length : Int) := of_decide_eq_true zcj_2; obtain ⟨ad367, e367, hx367_0⟩ := Kd.at_int (Kd.R_reads' HO364.out).2.2 t365 p367 q367; obtain rfl : adz_v363 = ad367 := (by injection e367))
 refine value_ (w1 := ?_) (v := ?_) (by rfl) rfl ?_ ?_
 rotate_left 2
 {
 go_simp
 constructor
 {rfl}
 {rfl}
 }
 clear hx367_0
 refine hK.out _ _ trivial (fun hHeld => ?_)
 clear hK K
 refine norm_ (a' := ?_) ?_ ?_
 rotate_left
 {exact zcj_100}
 exact norm_ (by first | (simp only [putAll, Act.put, List.setIfInBounds_toArray, List.set_cons_zero, List.set_cons_succ]; done) | (simp only [putAll, Act.put, List.setIfInBounds_toArray, List.set_cons_zero, List.set_cons_succ]; rfl)) (hJ0_2_4_11 (.slice (some adz_v363) y362.length co19, adz_v363, gb370) _ ⟨zcj_16, ⟨_, rfl⟩, zcj_6, zcj_7, zcj_14, GW370.out, GE370.out, NB0_370.out, NB370_0.out, NB360_370.out, NB370_360.out, NB361_370.out, NB370_361.out, zcj_8, zcj_10, zcj_11⟩)
 }
 {
 skip
 refine goes_ Tryd.func34 (by kernel_rfl) rfl #[.pointer (some ⟨g, 0, none⟩), .int .i64 60] (by rfl) rfl rfl zcj_3 ?_
 with_reducible refine (spec_l20Rd_pick.calls k g s0_0 t366 60 t368 t369 w0 _ ?side1 ?side2 A6.out).mono ?_
 (case side1 => exact zcj_8)
 (case side2 => exact zcj_11)
 rintro e w20 ⟨rfl, hi, hb, hk⟩
 refine ⟨_, rfl, ?_⟩
 refine zcj_f29 ?_
 clear BK360
 clear BK361
 clear HO364
 clear BK370
 clear HK
 clear HB
 clear HI0
 intro BK360 BK361 HO364 BK370 HK HB HI0
 (try clear hb)
 (try clear hb2)
 (try clear hk)
 (try clear hi)
 refine hK.out _ _ trivial (fun hHeld => ?_)
 clear hK K
 refine norm_ (a' := ?_) ?_ ?_
 rotate_left
 {exact zcj_50}
 refine pure_ (i := 7) (N := some 14) (v := ?_) (a' := ?_) #[true, true, true, true, false, true, true, true, false, false, false, true, false] rfl rfl (any_of HT_.out (by kernel_rfl)) (fun _ _ _ h => h) (Or.inl ⟨by rfl, ?_⟩) ?_ ?_
 rotate_left
 {
 intro w'
 go_simp
 with_reducible rfl
 }
 rotate_left
 {exact zcj_1}
 refine pure_ (i := 8) (N := some 15) (v := ?_) (a' := ?_) #[true, true, true, true, false, true, true, true, true, false, false, true, false] rfl rfl (any_of HT_.out (by kernel_rfl)) (fun _ _ _ h => h) (Or.inl ⟨by rfl, ?_⟩) ?_ ?_
 rotate_left
 {
 intro w'
 go_simp
 with_reducible rfl
 }
 rotate_left
 {exact zcj_1}
 exact norm_ (by first | (simp only [putAll, Act.put, List.setIfInBounds_toArray, List.set_cons_zero, List.set_cons_succ]; done) | (simp only [putAll, Act.put, List.setIfInBounds_toArray, List.set_cons_zero, List.set_cons_succ]; rfl)) (hJ0_2_6_11 (.slice (some adz_v363) y362.length co19, adz_v363, gb370) _ ⟨zcj_16, ⟨_, rfl⟩, zcj_6, zcj_7, zcj_14, GW370.out, GE370.out, NB0_370.out, NB370_0.out, NB360_370.out, NB370_360.out, NB361_370.out, NB370_361.out, zcj_8, zcj_10, zcj_11⟩)
 }
 }
 }
 {
 skip
 rintro ⟨v363, adz_v363⟩ w18 ⟨h0_, h1_, h2_, h3_, h4_, h5_, h6_⟩
 have n0_ : Aside0 (Kd.R (Kd.int .i64) 3 w18 w.heap.size (fun _ => True) v363 y362) := ⟨h0_⟩
 have n1_ : Aside0 (∃ c_, (v363 : Value) = .slice (some adz_v363) y362.length c_) := ⟨h1_⟩
 have n2_ : Aside0 (w18.heap[gb360]? = some (.cells #[.int .i64 a1_0, .slice A1_1 l1_1.length c1_1, .slice A1_2 l1_2.length c1_2] 50 (0, 0))) := ⟨h2_⟩
 have n3_ : Aside0 (w18.heap[gb361]? = some (.cells #[.int .i64 0, .int .i64 0, .int .i64 0, .string (⟨#[]⟩ : ByteArray)] 30 (0, 0))) := ⟨h3_⟩
 have n4_ : Aside0 (IsS63 w0 w18 g s0_0 t369) := ⟨h4_⟩
 have n5_ : Aside0 (KeepBut w w18 g none) := ⟨h5_⟩
 have n6_ : Aside0 (Below w0.heap.size w0 w18) := ⟨h6_⟩
 clear BK360
 clear BK361
 clear HI0
 clear HK
 clear HB
 clear h0_ h1_ h2_ h3_ h4_ h5_ h6_
 have HO364 := n0_
 have HA_HO364 := n1_
 have BK360 := n2_
 have BK361 := n3_
 have HI0 := n4_
 have HK := n5_
 have HB := n6_
 clear n0_ n1_ n2_ n3_ n4_ n5_ n6_
 have hHeld := trivial
 obtain ⟨co19, eo19⟩ := HA_HO364.out
 clear HA_HO364
 subst eo19
 refine norm_ (a' := ?_) ?_ ?_
 rotate_left
 {exact zcj_33}
 refine two_ (i := 4) (j := 11) (Ni := some 11) (Nj := some 5) #[true, true, true, true, true, true, true, true, true, false, false, false, false] #[true, true, true, true, false, true, true, true, true, false, false, true, false] rfl rfl rfl rfl (two_of HT_.out (by kernel_rfl)) (by decide) (by decide) (fun K hK => ?_) (fun K hK => ?_)
 {
 skip
 (have p367 : 0 ≤ (t365 : Int) := of_decide_eq_true zcj_2; have q367 : t365 < (y362.length : Int) := of_decide_eq_true zcj_2; obtain ⟨ad367, e367, hx367_0⟩ := Kd.at_int (Kd.R_reads' HO364.out).2.2 t365 p367 q367; obtain rfl : adz_v363 = ad367 := (by injection e367))
 refine value_ (w1 := ?_) (v := ?_) (by rfl) rfl ?_ ?_
 rotate_left 2
 {
 go_simp
 constructor
 {rfl}
 {rfl}
 }
 clear hx367_0
 refine hK.out _ _ trivial (fun hHeld => ?_)
 clear hK K
 refine norm_ (a' := ?_) ?_ ?_
 rotate_left
 {exact zcj_100}
 refine pure_ (i := 9) (N := some 16) (v := ?_) (a' := ?_) #[true, true, true, true, true, true, true, true, true, true, false, false, false] rfl rfl (any_of HT_.out (by kernel_rfl)) (fun _ _ _ h => h) (Or.inl ⟨by rfl, ?_⟩) ?_ ?_
 rotate_left
 {
 intro w'
 go_simp
 with_reducible rfl
 }
 rotate_left
 {exact zcj_1}
 refine pure_ (i := 10) (N := some 17) (v := ?_) (a' := ?_) #[true, true, true, true, true, true, true, true, true, true, true, false, false] rfl rfl (any_of HT_.out (by kernel_rfl)) (fun _ _ _ h => h) (Or.inl ⟨by rfl, ?_⟩) ?_ ?_
 rotate_left
 {
 intro w'
 go_simp
 with_reducible rfl
 }
 rotate_left
 {exact zcj_1}
 exact norm_ (by first | (simp only [putAll, Act.put, List.setIfInBounds_toArray, List.set_cons_zero, List.set_cons_succ]; done) | (simp only [putAll, Act.put, List.setIfInBounds_toArray, List.set_cons_zero, List.set_cons_succ]; rfl)) (hJ0_2_4_6 (.slice (some adz_v363) y362.length co19, adz_v363) _ ⟨zcj_16, ⟨_, rfl⟩, zcj_6, zcj_7, zcj_23, zcj_18, zcj_24⟩)
 }
 {
 skip
 refine box_step ?hg (N := 5) ?hd (cs := #[.int .i64 0, .int .i64 0, .int .i64 0, .string (⟨#[]⟩ : ByteArray)]) (t := 30) ?hr ?_; (case hd => rfl); (case hg => rfl); (case hr => exact zcj_12)
 intro gb370 hg w20 hbox hb
 refine zcj_f30 ?_
 clear HO364
 clear HI0
 clear BK360
 clear BK361
 clear HK
 clear HB
 intro HO364 HI0 BK360 BK361 HK HB BK370 GW370 GE370 NB360_370 NB370_360 NB361_370 NB370_361 NB0_370 NB370_0
 clear hb hbox hg
 refine hK.out _ _ trivial (fun hHeld => ?_)
 clear hK K
 refine norm_ (a' := ?_) ?_ ?_
 rotate_left
 {exact zcj_55}
 exact norm_ (by first | (simp only [putAll, Act.put, List.setIfInBounds_toArray, List.set_cons_zero, List.set_cons_succ]; done) | (simp only [putAll, Act.put, List.setIfInBounds_toArray, List.set_cons_zero, List.set_cons_succ]; rfl)) (hJ0_2_6_11 (.slice (some adz_v363) y362.length co19, adz_v363, gb370) _ ⟨zcj_16, ⟨_, rfl⟩, zcj_6, zcj_7, zcj_14, GW370.out, GE370.out, NB0_370.out, NB370_0.out, NB360_370.out, NB370_360.out, NB361_370.out, NB370_361.out, zcj_8, zcj_10, zcj_11⟩)
 }
 }
 }
 {
 skip
 rintro ⟨v363, adz_v363⟩ w17 ⟨h0_, h1_, h2_, h3_, h4_, h5_, h6_⟩
 have n0_ : Aside0 (Kd.R (Kd.int .i64) 3 w17 w.heap.size (fun _ => True) v363 y362) := ⟨h0_⟩
 have n1_ : Aside0 (∃ c_, (v363 : Value) = .slice (some adz_v363) y362.length c_) := ⟨h1_⟩
 have n2_ : Aside0 (w17.heap[gb360]? = some (.cells #[.int .i64 a1_0, .slice A1_1 l1_1.length c1_1, .slice A1_2 l1_2.length c1_2] 50 (0, 0))) := ⟨h2_⟩
 have n3_ : Aside0 (w17.heap[gb361]? = some (.cells #[.int .i64 0, .int .i64 0, .int .i64 0, .string (⟨#[]⟩ : ByteArray)] 30 (0, 0))) := ⟨h3_⟩
 have n4_ : Aside0 (IsS63 w0 w17 g s0_0 t366) := ⟨h4_⟩
 have n5_ : Aside0 (KeepBut w w17 g none) := ⟨h5_⟩
 have n6_ : Aside0 (Below w0.heap.size w0 w17) := ⟨h6_⟩
 clear BK360
 clear BK361
 clear HI0
 clear HK
 clear HB
 clear h0_ h1_ h2_ h3_ h4_ h5_ h6_
 have HO364 := n0_
 have HA_HO364 := n1_
 have BK360 := n2_
 have BK361 := n3_
 have HI0 := n4_
 have HK := n5_
 have HB := n6_
 clear n0_ n1_ n2_ n3_ n4_ n5_ n6_
 have hHeld := trivial
 obtain ⟨co18, eo18⟩ := HA_HO364.out
 clear HA_HO364
 subst eo18
 refine norm_ (a' := ?_) ?_ ?_
 rotate_left
 {exact zcj_33}
 refine two_ (i := 6) (j := 11) (Ni := some 13) (Nj := some 5) #[true, true, true, true, true, true, true, false, false, false, false, false, false] #[true, true, true, true, true, true, false, false, false, false, false, true, false] rfl rfl rfl rfl (two_of HT_.out (by kernel_rfl)) (by decide) (by decide) (fun K hK => ?_) (fun K hK => ?_)
 {
 skip
 refine goes_ Tryd.func34 (by kernel_rfl) rfl #[.pointer (some ⟨g, 0, none⟩), .int .i64 60] (by rfl) rfl rfl zcj_3 ?_
 with_reducible refine (spec_l20Rd_pick.calls k g s0_0 t366 60 t368 t369 w0 _ ?side1 ?side2 A6.out).mono ?_
 (case side1 => exact zcj_23)
 (case side2 => exact zcj_24)
 rintro e w19 ⟨rfl, hi, hb, hk⟩
 refine ⟨_, rfl, ?_⟩
 refine zcj_f27 ?_
 clear BK360
 clear BK361
 clear HO364
 clear HK
 clear HB
 clear HI0
 intro BK360 BK361 HO364 HK HB HI0
 (try clear hb)
 (try clear hb2)
 (try clear hk)
 (try clear hi)
 refine hK.out _ _ trivial (fun hHeld => ?_)
 clear hK K
 refine norm_ (a' := ?_) ?_ ?_
 rotate_left
 {exact zcj_50}
 refine pure_ (i := 7) (N := some 14) (v := ?_) (a' := ?_) #[true, true, true, true, true, true, true, true, false, false, false, false, false] rfl rfl (any_of HT_.out (by kernel_rfl)) (fun _ _ _ h => h) (Or.inl ⟨by rfl, ?_⟩) ?_ ?_
 rotate_left
 {
 intro w'
 go_simp
 with_reducible rfl
 }
 rotate_left
 {exact zcj_1}
 refine pure_ (i := 8) (N := some 15) (v := ?_) (a' := ?_) #[true, true, true, true, true, true, true, true, true, false, false, false, false] rfl rfl (any_of HT_.out (by kernel_rfl)) (fun _ _ _ h => h) (Or.inl ⟨by rfl, ?_⟩) ?_ ?_
 rotate_left
 {
 intro w'
 go_simp
 with_reducible rfl
 }
 rotate_left
 {exact zcj_1}
 refine pure_ (i := 9) (N := some 16) (v := ?_) (a' := ?_) #[true, true, true, true, true, true, true, true, true, true, false, false, false] rfl rfl (any_of HT_.out (by kernel_rfl)) (fun _ _ _ h => h) (Or.inl ⟨by rfl, ?_⟩) ?_ ?_
 rotate_left
 {
 intro w'
 go_simp
 with_reducible rfl
 }
 rotate_left
 {exact zcj_1}
 refine pure_ (i := 10) (N := some 17) (v := ?_) (a' := ?_) #[true, true, true, true, true, true, true, true, true, true, true, false, false] rfl rfl (any_of HT_.out (by kernel_rfl)) (fun _ _ _ h => h) (Or.inl ⟨by rfl, ?_⟩) ?_ ?_
 rotate_left
 {
 intro w'
 go_simp
 with_reducible rfl
 }
 rotate_left
 {exact zcj_1}
 exact norm_ (by first | (simp only [putAll, Act.put, List.setIfInBounds_toArray, List.set_cons_zero, List.set_cons_succ]; done) | (simp only [putAll, Act.put, List.setIfInBounds_toArray, List.set_cons_zero, List.set_cons_succ]; rfl)) (hJ0_2_4_6 (.slice (some adz_v363) y362.length co18, adz_v363) _ ⟨zcj_16, ⟨_, rfl⟩, zcj_6, zcj_7, zcj_23, zcj_18, zcj_24⟩)
 }
 {
 skip
 refine box_step ?hg (N := 5) ?hd (cs := #[.int .i64 0, .int .i64 0, .int .i64 0, .string (⟨#[]⟩ : ByteArray)]) (t := 30) ?hr ?_; (case hd => rfl); (case hg => rfl); (case hr => exact zcj_12)
 intro gb370 hg w19 hbox hb
 refine zcj_f28 ?_
 clear HO364
 clear HI0
 clear BK360
 clear BK361
 clear HK
 clear HB
 intro HO364 HI0 BK360 BK361 HK HB BK370 GW370 GE370 NB360_370 NB370_360 NB361_370 NB370_361 NB0_370 NB370_0
 clear hb hbox hg
 refine hK.out _ _ trivial (fun hHeld => ?_)
 clear hK K
 refine norm_ (a' := ?_) ?_ ?_
 rotate_left
 {exact zcj_55}
 exact norm_ (by first | (simp only [putAll, Act.put, List.setIfInBounds_toArray, List.set_cons_zero, List.set_cons_succ]; done) | (simp only [putAll, Act.put, List.setIfInBounds_toArray, List.set_cons_zero, List.set_cons_succ]; rfl)) (hJ0_2_4_11 (.slice (some adz_v363) y362.length co18, adz_v363, gb370) _ ⟨zcj_16, ⟨_, rfl⟩, zcj_6, zcj_7, zcj_14, GW370.out, GE370.out, NB0_370.out, NB370_0.out, NB360_370.out, NB370_360.out, NB361_370.out, NB370_361.out, zcj_8, zcj_10, zcj_11⟩)
 }
 }
 }
 {
 skip
 rintro ⟨v363, adz_v363, gb370⟩ w19 ⟨h0_, h1_, h2_, h3_, h4_, h5_, h6_, h7_, h8_, h9_, h10_, h11_, h12_, h13_, h14_, h15_⟩
 have n0_ : Aside0 (Kd.R (Kd.int .i64) 3 w19 w.heap.size (fun _ => True) v363 y362) := ⟨h0_⟩
 have n1_ : Aside0 (∃ c_, (v363 : Value) = .slice (some adz_v363) y362.length c_) := ⟨h1_⟩
 have n2_ : Aside0 (w19.heap[gb360]? = some (.cells #[.int .i64 a1_0, .slice A1_1 l1_1.length c1_1, .slice A1_2 l1_2.length c1_2] 50 (0, 0))) := ⟨h2_⟩
 have n3_ : Aside0 (w19.heap[gb361]? = some (.cells #[.int .i64 0, .int .i64 0, .int .i64 0, .string (⟨#[]⟩ : ByteArray)] 30 (0, 0))) := ⟨h3_⟩
 have n4_ : Aside0 (w19.heap[gb370]? = some (.cells #[.int .i64 0, .int .i64 0, .int .i64 0, .string (⟨#[]⟩ : ByteArray)] 30 (0, 0))) := ⟨h4_⟩
 have n5_ : Aside0 (w.heap.size ≤ gb370) := ⟨h5_⟩
 have n6_ : Aside0 (w0.heap.size ≤ gb370) := ⟨h6_⟩
 have n7_ : Aside0 (g ≠ gb370) := ⟨h7_⟩
 have n8_ : Aside0 (gb370 ≠ g) := ⟨h8_⟩
 have n9_ : Aside0 (gb360 ≠ gb370) := ⟨h9_⟩
 have n10_ : Aside0 (gb370 ≠ gb360) := ⟨h10_⟩
 have n11_ : Aside0 (gb361 ≠ gb370) := ⟨h11_⟩
 have n12_ : Aside0 (gb370 ≠ gb361) := ⟨h12_⟩
 have n13_ : Aside0 (IsS63 w0 w19 g s0_0 t369) := ⟨h13_⟩
 have n14_ : Aside0 (KeepBut w w19 g none) := ⟨h14_⟩
 have n15_ : Aside0 (Below w0.heap.size w0 w19) := ⟨h15_⟩
 clear BK360
 clear BK361
 clear HI0
 clear HK
 clear HB
 clear h0_ h1_ h2_ h3_ h4_ h5_ h6_ h7_ h8_ h9_ h10_ h11_ h12_ h13_ h14_ h15_
 have HO364 := n0_
 have HA_HO364 := n1_
 have BK360 := n2_
 have BK361 := n3_
 have BK370 := n4_
 have GW370 := n5_
 have GE370 := n6_
 have NB0_370 := n7_
 have NB370_0 := n8_
 have NB360_370 := n9_
 have NB370_360 := n10_
 have NB361_370 := n11_
 have NB370_361 := n12_
 have HI0 := n13_
 have HK := n14_
 have HB := n15_
 clear n0_ n1_ n2_ n3_ n4_ n5_ n6_ n7_ n8_ n9_ n10_ n11_ n12_ n13_ n14_ n15_
 have hHeld := trivial
 obtain ⟨co20, eo20⟩ := HA_HO364.out
 clear HA_HO364
 subst eo20
 refine norm_ (a' := ?_) ?_ ?_
 rotate_left
 {exact zcj_33}
 refine one_ (i := 4) (N := some 11) #[true, true, true, true, true, true, true, true, true, false, false, true, false] rfl rfl (one_of HT_.out (by kernel_rfl)) (by decide) (fun K hK => ?_)
 (have p367 : 0 ≤ (t365 : Int) := of_decide_eq_true zcj_2; have q367 : t365 < (y362.length : Int) := of_decide_eq_true zcj_2; obtain ⟨ad367, e367, hx367_0⟩ := Kd.at_int (Kd.R_reads' HO364.out).2.2 t365 p367 q367; obtain rfl : adz_v363 = ad367 := (by injection e367))
 refine value_ (w1 := ?_) (v := ?_) (by rfl) rfl ?_ ?_
 rotate_left 2
 {
 go_simp
 constructor
 {rfl}
 {rfl}
 }
 clear hx367_0
 refine hK.out _ _ trivial (fun hHeld => ?_)
 clear hK K
 refine norm_ (a' := ?_) ?_ ?_
 rotate_left
 {exact zcj_100}
 refine pure_ (i := 9) (N := some 16) (v := ?_) (a' := ?_) #[true, true, true, true, true, true, true, true, true, true, false, true, false] rfl rfl (any_of HT_.out (by kernel_rfl)) (fun _ _ _ h => h) (Or.inl ⟨by rfl, ?_⟩) ?_ ?_
 rotate_left
 {
 intro w'
 go_simp
 with_reducible rfl
 }
 rotate_left
 {exact zcj_1}
 refine pure_ (i := 10) (N := some 17) (v := ?_) (a' := ?_) #[true, true, true, true, true, true, true, true, true, true, true, true, false] rfl rfl (any_of HT_.out (by kernel_rfl)) (fun _ _ _ h => h) (Or.inl ⟨by rfl, ?_⟩) ?_ ?_
 rotate_left
 {
 intro w'
 go_simp
 with_reducible rfl
 }
 rotate_left
 {exact zcj_1}
 exact norm_ (by first | (simp only [putAll, Act.put, List.setIfInBounds_toArray, List.set_cons_zero, List.set_cons_succ]; done) | (simp only [putAll, Act.put, List.setIfInBounds_toArray, List.set_cons_zero, List.set_cons_succ]; rfl)) (hJ0_2_4_6_11 (.slice (some adz_v363) y362.length co20, adz_v363, gb370) _ ⟨zcj_16, ⟨_, rfl⟩, zcj_6, zcj_7, zcj_14, GW370.out, GE370.out, NB0_370.out, NB370_0.out, NB360_370.out, NB370_360.out, NB361_370.out, NB370_361.out, zcj_8, zcj_10, zcj_11⟩)
 }
 }
 {
 skip
 rintro ⟨v363, adz_v363, gb370⟩ w18 ⟨h0_, h1_, h2_, h3_, h4_, h5_, h6_, h7_, h8_, h9_, h10_, h11_, h12_, h13_, h14_, h15_⟩
 have n0_ : Aside0 (Kd.R (Kd.int .i64) 3 w18 w.heap.size (fun _ => True) v363 y362) := ⟨h0_⟩
 have n1_ : Aside0 (∃ c_, (v363 : Value) = .slice (some adz_v363) y362.length c_) := ⟨h1_⟩
 have n2_ : Aside0 (w18.heap[gb360]? = some (.cells #[.int .i64 a1_0, .slice A1_1 l1_1.length c1_1, .slice A1_2 l1_2.length c1_2] 50 (0, 0))) := ⟨h2_⟩
 have n3_ : Aside0 (w18.heap[gb361]? = some (.cells #[.int .i64 0, .int .i64 0, .int .i64 0, .string (⟨#[]⟩ : ByteArray)] 30 (0, 0))) := ⟨h3_⟩
 have n4_ : Aside0 (w18.heap[gb370]? = some (.cells #[.int .i64 0, .int .i64 0, .int .i64 0, .string (⟨#[]⟩ : ByteArray)] 30 (0, 0))) := ⟨h4_⟩
 have n5_ : Aside0 (w.heap.size ≤ gb370) := ⟨h5_⟩
 have n6_ : Aside0 (w0.heap.size ≤ gb370) := ⟨h6_⟩
 have n7_ : Aside0 (g ≠ gb370) := ⟨h7_⟩
 have n8_ : Aside0 (gb370 ≠ g) := ⟨h8_⟩
 have n9_ : Aside0 (gb360 ≠ gb370) := ⟨h9_⟩
 have n10_ : Aside0 (gb370 ≠ gb360) := ⟨h10_⟩
 have n11_ : Aside0 (gb361 ≠ gb370) := ⟨h11_⟩
 have n12_ : Aside0 (gb370 ≠ gb361) := ⟨h12_⟩
 have n13_ : Aside0 (IsS63 w0 w18 g s0_0 t366) := ⟨h13_⟩
 have n14_ : Aside0 (KeepBut w w18 g none) := ⟨h14_⟩
 have n15_ : Aside0 (Below w0.heap.size w0 w18) := ⟨h15_⟩
 clear BK360
 clear BK361
 clear HI0
 clear HK
 clear HB
 clear h0_ h1_ h2_ h3_ h4_ h5_ h6_ h7_ h8_ h9_ h10_ h11_ h12_ h13_ h14_ h15_
 have HO364 := n0_
 have HA_HO364 := n1_
 have BK360 := n2_
 have BK361 := n3_
 have BK370 := n4_
 have GW370 := n5_
 have GE370 := n6_
 have NB0_370 := n7_
 have NB370_0 := n8_
 have NB360_370 := n9_
 have NB370_360 := n10_
 have NB361_370 := n11_
 have NB370_361 := n12_
 have HI0 := n13_
 have HK := n14_
 have HB := n15_
 clear n0_ n1_ n2_ n3_ n4_ n5_ n6_ n7_ n8_ n9_ n10_ n11_ n12_ n13_ n14_ n15_
 have hHeld := trivial
 obtain ⟨co19, eo19⟩ := HA_HO364.out
 clear HA_HO364
 subst eo19
 refine norm_ (a' := ?_) ?_ ?_
 rotate_left
 {exact zcj_33}
 refine one_ (i := 6) (N := some 13) #[true, true, true, true, true, true, true, false, false, false, false, true, false] rfl rfl (one_of HT_.out (by kernel_rfl)) (by decide) (fun K hK => ?_)
 refine goes_ Tryd.func34 (by kernel_rfl) rfl #[.pointer (some ⟨g, 0, none⟩), .int .i64 60] (by rfl) rfl rfl zcj_3 ?_
 with_reducible refine (spec_l20Rd_pick.calls k g s0_0 t366 60 t368 t369 w0 _ ?side1 ?side2 A6.out).mono ?_
 (case side1 => exact zcj_8)
 (case side2 => exact zcj_11)
 rintro e w20 ⟨rfl, hi, hb, hk⟩
 refine ⟨_, rfl, ?_⟩
 refine zcj_f29 ?_
 clear BK360
 clear BK361
 clear HO364
 clear BK370
 clear HK
 clear HB
 clear HI0
 intro BK360 BK361 HO364 BK370 HK HB HI0
 (try clear hb)
 (try clear hb2)
 (try clear hk)
 (try clear hi)
 refine hK.out _ _ trivial (fun hHeld => ?_)
 clear hK K
 refine norm_ (a' := ?_) ?_ ?_
 rotate_left
 {exact zcj_50}
 refine pure_ (i := 7) (N := some 14) (v := ?_) (a' := ?_) #[true, true, true, true, true, true, true, true, false, false, false, true, false] rfl rfl (any_of HT_.out (by kernel_rfl)) (fun _ _ _ h => h) (Or.inl ⟨by rfl, ?_⟩) ?_ ?_
 rotate_left
 {
 intro w'
 go_simp
 with_reducible rfl
 }
 rotate_left
 {exact zcj_1}
 refine pure_ (i := 8) (N := some 15) (v := ?_) (a' := ?_) #[true, true, true, true, true, true, true, true, true, false, false, true, false] rfl rfl (any_of HT_.out (by kernel_rfl)) (fun _ _ _ h => h) (Or.inl ⟨by rfl, ?_⟩) ?_ ?_
 rotate_left
 {
 intro w'
 go_simp
 with_reducible rfl
 }
 rotate_left
 {exact zcj_1}
 refine pure_ (i := 9) (N := some 16) (v := ?_) (a' := ?_) #[true, true, true, true, true, true, true, true, true, true, false, true, false] rfl rfl (any_of HT_.out (by kernel_rfl)) (fun _ _ _ h => h) (Or.inl ⟨by rfl, ?_⟩) ?_ ?_
 rotate_left
 {
 intro w'
 go_simp
 with_reducible rfl
 }
 rotate_left
 {exact zcj_1}
 refine pure_ (i := 10) (N := some 17) (v := ?_) (a' := ?_) #[true, true, true, true, true, true, true, true, true, true, true, true, false] rfl rfl (any_of HT_.out (by kernel_rfl)) (fun _ _ _ h => h) (Or.inl ⟨by rfl, ?_⟩) ?_ ?_
 rotate_left
 {
 intro w'
 go_simp
 with_reducible rfl
 }
 rotate_left
 {exact zcj_1}
 exact norm_ (by first | (simp only [putAll, Act.put, List.setIfInBounds_toArray, List.set_cons_zero, List.set_cons_succ]; done) | (simp only [putAll, Act.put, List.setIfInBounds_toArray, List.set_cons_zero, List.set_cons_succ]; rfl)) (hJ0_2_4_6_11 (.slice (some adz_v363) y362.length co19, adz_v363, gb370) _ ⟨zcj_16, ⟨_, rfl⟩, zcj_6, zcj_7, zcj_14, GW370.out, GE370.out, NB0_370.out, NB370_0.out, NB360_370.out, NB370_360.out, NB361_370.out, NB370_361.out, zcj_8, zcj_10, zcj_11⟩)
 }
 }
 {
 skip
 rintro ⟨v363, adz_v363⟩ w18 ⟨h0_, h1_, h2_, h3_, h4_, h5_, h6_⟩
 have n0_ : Aside0 (Kd.R (Kd.int .i64) 3 w18 w.heap.size (fun _ => True) v363 y362) := ⟨h0_⟩
 have n1_ : Aside0 (∃ c_, (v363 : Value) = .slice (some adz_v363) y362.length c_) := ⟨h1_⟩
 have n2_ : Aside0 (w18.heap[gb360]? = some (.cells #[.int .i64 a1_0, .slice A1_1 l1_1.length c1_1, .slice A1_2 l1_2.length c1_2] 50 (0, 0))) := ⟨h2_⟩
 have n3_ : Aside0 (w18.heap[gb361]? = some (.cells #[.int .i64 0, .int .i64 0, .int .i64 0, .string (⟨#[]⟩ : ByteArray)] 30 (0, 0))) := ⟨h3_⟩
 have n4_ : Aside0 (IsS63 w0 w18 g s0_0 t369) := ⟨h4_⟩
 have n5_ : Aside0 (KeepBut w w18 g none) := ⟨h5_⟩
 have n6_ : Aside0 (Below w0.heap.size w0 w18) := ⟨h6_⟩
 clear BK360
 clear BK361
 clear HI0
 clear HK
 clear HB
 clear h0_ h1_ h2_ h3_ h4_ h5_ h6_
 have HO364 := n0_
 have HA_HO364 := n1_
 have BK360 := n2_
 have BK361 := n3_
 have HI0 := n4_
 have HK := n5_
 have HB := n6_
 clear n0_ n1_ n2_ n3_ n4_ n5_ n6_
 have hHeld := trivial
 obtain ⟨co19, eo19⟩ := HA_HO364.out
 clear HA_HO364
 subst eo19
 refine norm_ (a' := ?_) ?_ ?_
 rotate_left
 {exact zcj_33}
 refine one_ (i := 11) (N := some 5) #[true, true, true, true, true, true, true, true, true, true, true, true, false] rfl rfl (one_of HT_.out (by kernel_rfl)) (by decide) (fun K hK => ?_)
 refine box_step ?hg (N := 5) ?hd (cs := #[.int .i64 0, .int .i64 0, .int .i64 0, .string (⟨#[]⟩ : ByteArray)]) (t := 30) ?hr ?_; (case hd => rfl); (case hg => rfl); (case hr => exact zcj_12)
 intro gb370 hg w20 hbox hb
 refine zcj_f30 ?_
 clear HO364
 clear HI0
 clear BK360
 clear BK361
 clear HK
 clear HB
 intro HO364 HI0 BK360 BK361 HK HB BK370 GW370 GE370 NB360_370 NB370_360 NB361_370 NB370_361 NB0_370 NB370_0
 clear hb hbox hg
 refine hK.out _ _ trivial (fun hHeld => ?_)
 clear hK K
 refine norm_ (a' := ?_) ?_ ?_
 rotate_left
 {exact zcj_55}
 exact norm_ (by first | (simp only [putAll, Act.put, List.setIfInBounds_toArray, List.set_cons_zero, List.set_cons_succ]; done) | (simp only [putAll, Act.put, List.setIfInBounds_toArray, List.set_cons_zero, List.set_cons_succ]; rfl)) (hJ0_2_4_6_11 (.slice (some adz_v363) y362.length co19, adz_v363, gb370) _ ⟨zcj_16, ⟨_, rfl⟩, zcj_6, zcj_7, zcj_14, GW370.out, GE370.out, NB0_370.out, NB370_0.out, NB360_370.out, NB370_360.out, NB361_370.out, NB370_361.out, zcj_8, zcj_10, zcj_11⟩)
 }
 }
 rintro ⟨v363, adz_v363, gb370⟩ w19 ⟨h0_, h1_, h2_, h3_, h4_, h5_, h6_, h7_, h8_, h9_, h10_, h11_, h12_, h13_, h14_, h15_⟩
 have n0_ : Aside0 (Kd.R (Kd.int .i64) 3 w19 w.heap.size (fun _ => True) v363 y362) := ⟨h0_⟩
 have n1_ : Aside0 (∃ c_, (v363 : Value) = .slice (some adz_v363) y362.length c_) := ⟨h1_⟩
 have n2_ : Aside0 (w19.heap[gb360]? = some (.cells #[.int .i64 a1_0, .slice A1_1 l1_1.length c1_1, .slice A1_2 l1_2.length c1_2] 50 (0, 0))) := ⟨h2_⟩
 have n3_ : Aside0 (w19.heap[gb361]? = some (.cells #[.int .i64 0, .int .i64 0, .int .i64 0, .string (⟨#[]⟩ : ByteArray)] 30 (0, 0))) := ⟨h3_⟩
 have n4_ : Aside0 (w19.heap[gb370]? = some (.cells #[.int .i64 0, .int .i64 0, .int .i64 0, .string (⟨#[]⟩ : ByteArray)] 30 (0, 0))) := ⟨h4_⟩
 have n5_ : Aside0 (w.heap.size ≤ gb370) := ⟨h5_⟩
 have n6_ : Aside0 (w0.heap.size ≤ gb370) := ⟨h6_⟩
 have n7_ : Aside0 (g ≠ gb370) := ⟨h7_⟩
 have n8_ : Aside0 (gb370 ≠ g) := ⟨h8_⟩
 have n9_ : Aside0 (gb360 ≠ gb370) := ⟨h9_⟩
 have n10_ : Aside0 (gb370 ≠ gb360) := ⟨h10_⟩
 have n11_ : Aside0 (gb361 ≠ gb370) := ⟨h11_⟩
 have n12_ : Aside0 (gb370 ≠ gb361) := ⟨h12_⟩
 have n13_ : Aside0 (IsS63 w0 w19 g s0_0 t369) := ⟨h13_⟩
 have n14_ : Aside0 (KeepBut w w19 g none) := ⟨h14_⟩
 have n15_ : Aside0 (Below w0.heap.size w0 w19) := ⟨h15_⟩
 clear BK360
 clear BK361
 clear HI0
 clear HK
 clear HB
 clear h0_ h1_ h2_ h3_ h4_ h5_ h6_ h7_ h8_ h9_ h10_ h11_ h12_ h13_ h14_ h15_
 have HO364 := n0_
 have HA_HO364 := n1_
 have BK360 := n2_
 have BK361 := n3_
 have BK370 := n4_
 have GW370 := n5_
 have GE370 := n6_
 have NB0_370 := n7_
 have NB370_0 := n8_
 have NB360_370 := n9_
 have NB370_360 := n10_
 have NB361_370 := n11_
 have NB370_361 := n12_
 have HI0 := n13_
 have HK := n14_
 have HB := n15_
 clear n0_ n1_ n2_ n3_ n4_ n5_ n6_ n7_ n8_ n9_ n10_ n11_ n12_ n13_ n14_ n15_
 have hHeld := trivial
 obtain ⟨co20, eo20⟩ := HA_HO364.out
 clear HA_HO364
 subst eo20
 refine norm_ (a' := ?_) ?_ ?_
 rotate_left
 {exact zcj_33}
 refine one_ (i := 12) (N := none) #[true, true, true, true, true, true, true, true, true, true, true, true, true] rfl rfl (one_of HT_.out (by kernel_rfl)) (by decide) (fun K hK => ?_)
 have hs21 : w19.cell? ⟨gb370, 0, none⟩ = some (.int .i64 0) := (blk_cell BK370.out 0).trans rfl
 have hfs21 := blk_frozen BK370.out 0
 have hns21_0 := NB360_370.out
 have hns21_1 := NB361_370.out
 have hms21_0 := NB370_360.out
 have hms21_1 := NB370_361.out
 have hs22 : w19.cell? ⟨gb370, 1, none⟩ = some (.int .i64 0) := (blk_cell BK370.out 1).trans rfl
 have hfs22 := blk_frozen BK370.out 1
 have hns22_0 := NB360_370.out
 have hns22_1 := NB361_370.out
 have hms22_0 := NB370_360.out
 have hms22_1 := NB370_361.out
 have hs23 : w19.cell? ⟨gb370, 2, none⟩ = some (.int .i64 0) := (blk_cell BK370.out 2).trans rfl
 have hfs23 := blk_frozen BK370.out 2
 have hns23_0 := NB360_370.out
 have hns23_1 := NB361_370.out
 have hms23_0 := NB370_360.out
 have hms23_1 := NB370_361.out
 have hs24 : w19.cell? ⟨gb370, 3, none⟩ = some (.string (⟨#[]⟩ : ByteArray)) := (blk_cell BK370.out 3).trans rfl
 have hfs24 := blk_frozen BK370.out 3
 have hns24_0 := NB360_370.out
 have hns24_1 := NB361_370.out
 have hms24_0 := NB370_360.out
 have hms24_1 := NB370_361.out
 refine skip_ (w1 := ?_) (by rfl) rfl ?_ ?_
 rotate_left
 {go_simp; rfl}
 refine hK.out _ _ trivial (fun hHeld => ?_)
 clear hK K
 refine done_ (done_of HT_.out (by kernel_rfl)) ?_
 have hnb25 := NB360_361.out
 have hnc25 := NB361_360.out
 have hnb26 := NB360_370.out
 have hnc26 := NB370_360.out
 have hnb27 := NB360_0.out
 have hnc27 := NB0_360.out
 have hcz28_0 : w19.cell? ⟨gb360, 0, none⟩ = some (.int .i64 a1_0) := (blk_cell BK360.out 0).trans rfl
 have hcz28_1 : w19.cell? ⟨gb360, 1, none⟩ = some (.slice A1_1 l1_1.length c1_1) := (blk_cell BK360.out 1).trans rfl
 have hcz28_2 : w19.cell? ⟨gb360, 2, none⟩ = some (.slice A1_2 l1_2.length c1_2) := (blk_cell BK360.out 2).trans rfl
 have hfz28_0 := blk_frozen BK360.out 0
 have hfz28_1 := blk_frozen BK360.out 1
 have hfz28_2 := blk_frozen BK360.out 2
 have hnb29 := NB370_361.out
 have hnc29 := NB361_370.out
 have hnb30 := NB370_0.out
 have hnc30 := NB0_370.out
 have hcz31_0 : w19.cell? ⟨gb370, 0, none⟩ = some (.int .i64 0) := (blk_cell BK370.out 0).trans rfl
 have hcz31_1 : w19.cell? ⟨gb370, 1, none⟩ = some (.int .i64 0) := (blk_cell BK370.out 1).trans rfl
 have hcz31_2 : w19.cell? ⟨gb370, 2, none⟩ = some (.int .i64 0) := (blk_cell BK370.out 2).trans rfl
 have hcz31_3 : w19.cell? ⟨gb370, 3, none⟩ = some (.string (⟨#[]⟩ : ByteArray)) := (blk_cell BK370.out 3).trans rfl
 have hfz31_0 := blk_frozen BK370.out 0
 have hfz31_1 := blk_frozen BK370.out 1
 have hfz31_2 := blk_frozen BK370.out 2
 have hfz31_3 := blk_frozen BK370.out 3
 go_upto_block 0 with (fail)
 go_cut [] (fun wc => ∃ (kq : Nat) (x1001_8 : Int) (x371001_8 : Int) (x371002_8 : Int) (x371003_8 : ByteArray), Aside0 (spec_l20Deed.j0 kq s0_0 x1001_8 (wrap64 ((rd y362 t365) + (wrap64 ((wrap64 (Int.tdiv t368 59)) * 5)))) x371001_8 x371002_8 x371003_8 = some (r1, r2, r3, r4, r5)) ∧ Aside0 (kq ≤ k) ∧ Aside0 (wc.heap[gb360]? = some (.cells #[.int .i64 a1_0, (.slice A1_1 l1_1.length c1_1), (.slice A1_2 l1_2.length c1_2)] 50 (0, 0))) ∧ Aside0 (wc.heap[gb361]? = some (.cells #[.int .i64 0, .int .i64 0, .int .i64 0, .string (⟨#[]⟩ : ByteArray)] 30 (0, 0))) ∧ Aside0 (wc.heap[gb370]? = some (.cells #[.int .i64 (wrap64 ((rd y362 t365) + (wrap64 ((wrap64 (Int.tdiv t368 59)) * 5)))), .int .i64 x371001_8, .int .i64 x371002_8, .string x371003_8] 30 (0, 0))) ∧ Aside0 (IsS63 w0 wc g s0_0 x1001_8) ∧ Aside0 (KeepBut w wc g none) ∧ Aside0 (Below w0.heap.size w0 wc))
 case first =>(
 have H := HC9.out
 clear HC9
 by_cases c32 : (wrap64 ((rd y362 t365) + (wrap64 ((wrap64 (Int.tdiv t368 59)) * 5)))) = 0
 {
 rw [if_pos c32] at H
 have c32b0 : ((wrap64 ((rd y362 t365) + (wrap64 ((wrap64 (Int.tdiv t368 59)) * 5)))) == 0) = true := beq_iff_eq.mpr c32
 have c32b1 : ((wrap64 ((rd y362 t365) + (wrap64 ((wrap64 (Int.tdiv t368 59)) * 5)))) != 0) = false := bne_eq_false_iff_eq.mpr c32
 clear c32
 (first | rw [c32b0] | (simp only [i64_w, i32_w]; rw [c32b0]) | skip)
 replace H := Option.bind_eq_some_iff.mp H
 obtain ⟨⟨t371, t372⟩, A330, H⟩ := H
 try dsimp only at H
 have A33 := Aside0.mk A330
 clear A330
 have H' := Aside0.mk H
 clear H
 go_wp2_with (first | ((with_reducible refine gate_callee (f := 34) rfl ?_); refine goesL_ (some 31) rfl rfl Tryd.func34 (by kernel_rfl) rfl #[.pointer (some ⟨g, 0, none⟩), .int .i64 (wrap64 ((wrap64 (2 ^ (ji8).toNat)) - 1))] rfl zcj_86 ?_; (with_reducible refine (spec_l20Rd_pick.calls k g s0_0 t369 (wrap64 ((wrap64 (2 ^ (ji8).toNat)) - 1)) t371 t372 w0 _ ?side1 ?side2 A33.out).mono ?_); (case side1 => exact zcj_8); (case side2 => exact zcj_11); rintro e w34 ⟨rfl, hi, hb, hk⟩; refine ⟨_, rfl, ?_⟩; refine zcj_f13 ?_; clear BK360; clear BK361; clear HO364; clear BK370; clear HK; clear HB; clear HI0; intro BK360 BK361 HO364 BK370 HK HB HI0; (try clear hb); (try clear hb2); (try clear hk); (try clear hi); have hnb35 := NB370_360.out; have hnc35 := NB360_370.out; have hnb36 := NB370_361.out; have hnc36 := NB361_370.out; have hnb37 := NB370_0.out; have hnc37 := NB0_370.out; have hcz38_0 : w34.cell? ⟨gb370, 0, none⟩ = some (.int .i64 (wrap64 ((rd y362 t365) + (wrap64 ((wrap64 (Int.tdiv t368 59)) * 5))))) := (blk_cell BK370.out 0).trans rfl; have hcz38_1 : w34.cell? ⟨gb370, 1, none⟩ = some (.int .i64 0) := (blk_cell BK370.out 1).trans rfl; have hcz38_2 : w34.cell? ⟨gb370, 2, none⟩ = some (.int .i64 0) := (blk_cell BK370.out 2).trans rfl; have hcz38_3 : w34.cell? ⟨gb370, 3, none⟩ = some (.string (⟨#[]⟩ : ByteArray)) := (blk_cell BK370.out 3).trans rfl; have hfz38_0 := blk_frozen BK370.out 0; have hfz38_1 := blk_frozen BK370.out 1; have hfz38_2 := blk_frozen BK370.out 2; have hfz38_3 := blk_frozen BK370.out 3))
 go_meet
 case rel => exact ⟨_, (t372), (wrap64 (1 + t371)), (0), ((⟨#[]⟩ : ByteArray)), H', ⟨zcj_38⟩, ⟨zcj_62⟩, ⟨zcj_63⟩, ⟨zcj_115⟩, ⟨zcj_8⟩, ⟨zcj_10⟩, ⟨zcj_11⟩⟩
 }
 {
 rw [if_neg c32] at H
 have c32b0 : ((wrap64 ((rd y362 t365) + (wrap64 ((wrap64 (Int.tdiv t368 59)) * 5)))) == 0) = false := beq_eq_false_iff_ne.mpr c32
 have c32b1 : ((wrap64 ((rd y362 t365) + (wrap64 ((wrap64 (Int.tdiv t368 59)) * 5)))) != 0) = true := bne_iff_ne.mpr c32
 (first | rw [c32b0] | (simp only [i64_w, i32_w]; rw [c32b0]) | skip)
 by_cases c39 : (wrap64 ((rd y362 t365) + (wrap64 ((wrap64 (Int.tdiv t368 59)) * 5)))) = 1
 {
 rw [if_pos c39] at H
 have c39b0 : ((wrap64 ((rd y362 t365) + (wrap64 ((wrap64 (Int.tdiv t368 59)) * 5)))) == 1) = true := beq_iff_eq.mpr c39
 have c39b1 : ((wrap64 ((rd y362 t365) + (wrap64 ((wrap64 (Int.tdiv t368 59)) * 5)))) != 1) = false := bne_eq_false_iff_eq.mpr c39
 clear c39
 replace H := Option.bind_eq_some_iff.mp H
 obtain ⟨⟨t373, t376⟩, A400, H⟩ := H
 try dsimp only at H
 have A40 := Aside0.mk A400
 clear A400
 replace H := Option.bind_eq_some_iff.mp H
 obtain ⟨t377, A410, H⟩ := H
 try dsimp only at H
 have A41 := Aside0.mk A410
 clear A410
 have H' := Aside0.mk H
 clear H
 try go_wp2
 have n0_ : Aside0 (Kd.R (Kd.int .i64) 3 ((((w19.setCell ⟨gb370, 0, none⟩ (.int .i64 (wrap64 ((rd y362 t365) + (wrap64 ((wrap64 (Int.tdiv t368 59)) * 5)))))).setCell ⟨gb370, 1, none⟩ (.int .i64 0)).setCell ⟨gb370, 2, none⟩ (.int .i64 0)).setCell ⟨gb370, 3, none⟩ (.string (⟨#[]⟩ : ByteArray))) w.heap.size (fun _ => True) (.slice (some adz_v363) y362.length co20) y362) := ⟨by (with_reducible repeat (first | apply Kd.R_alloc | apply Kd.R_drewN | apply Kd.R_drew)); exact Kd.R_mono (Kd.R_far (p := ⟨gb370, 3, none⟩) (Kd.R_far (p := ⟨gb370, 2, none⟩) (Kd.R_far (p := ⟨gb370, 1, none⟩) (Kd.R_far (p := ⟨gb370, 0, none⟩) (Kd.R_types HO364.out BK370.out (by decide)) (fun _ hk => hk.2) (.int .i64 (wrap64 ((rd y362 t365) + (wrap64 ((wrap64 (Int.tdiv t368 59)) * 5)))))) (fun _ hk => hk.2) (.int .i64 0)) (fun _ hk => hk.2) (.int .i64 0)) (fun _ hk => hk.2) (.string (⟨#[]⟩ : ByteArray))) (fun _ hk => trivial)⟩
 have n1_ : Aside0 (((((w19.setCell ⟨gb370, 0, none⟩ (.int .i64 (wrap64 ((rd y362 t365) + (wrap64 ((wrap64 (Int.tdiv t368 59)) * 5)))))).setCell ⟨gb370, 1, none⟩ (.int .i64 0)).setCell ⟨gb370, 2, none⟩ (.int .i64 0)).setCell ⟨gb370, 3, none⟩ (.string (⟨#[]⟩ : ByteArray))).heap[gb360]? = some (.cells #[.int .i64 a1_0, .slice A1_1 l1_1.length c1_1, .slice A1_2 l1_2.length c1_2] 50 (0, 0))) := ⟨zcj_116⟩
 have n2_ : Aside0 (((((w19.setCell ⟨gb370, 0, none⟩ (.int .i64 (wrap64 ((rd y362 t365) + (wrap64 ((wrap64 (Int.tdiv t368 59)) * 5)))))).setCell ⟨gb370, 1, none⟩ (.int .i64 0)).setCell ⟨gb370, 2, none⟩ (.int .i64 0)).setCell ⟨gb370, 3, none⟩ (.string (⟨#[]⟩ : ByteArray))).heap[gb361]? = some (.cells #[.int .i64 0, .int .i64 0, .int .i64 0, .string (⟨#[]⟩ : ByteArray)] 30 (0, 0))) := ⟨zcj_117⟩
 have n3_ : Aside0 (((((w19.setCell ⟨gb370, 0, none⟩ (.int .i64 (wrap64 ((rd y362 t365) + (wrap64 ((wrap64 (Int.tdiv t368 59)) * 5)))))).setCell ⟨gb370, 1, none⟩ (.int .i64 0)).setCell ⟨gb370, 2, none⟩ (.int .i64 0)).setCell ⟨gb370, 3, none⟩ (.string (⟨#[]⟩ : ByteArray))).heap[gb370]? = some (.cells #[.int .i64 (wrap64 ((rd y362 t365) + (wrap64 ((wrap64 (Int.tdiv t368 59)) * 5)))), .int .i64 0, .int .i64 0, .string (⟨#[]⟩ : ByteArray)] 30 (0, 0))) := ⟨zcj_118⟩
 have n4_ : Aside0 (IsS63 w0 ((((w19.setCell ⟨gb370, 0, none⟩ (.int .i64 (wrap64 ((rd y362 t365) + (wrap64 ((wrap64 (Int.tdiv t368 59)) * 5)))))).setCell ⟨gb370, 1, none⟩ (.int .i64 0)).setCell ⟨gb370, 2, none⟩ (.int .i64 0)).setCell ⟨gb370, 3, none⟩ (.string (⟨#[]⟩ : ByteArray))) g s0_0 t369) := ⟨zcj_8⟩
 have n5_ : Aside0 (KeepBut w ((((w19.setCell ⟨gb370, 0, none⟩ (.int .i64 (wrap64 ((rd y362 t365) + (wrap64 ((wrap64 (Int.tdiv t368 59)) * 5)))))).setCell ⟨gb370, 1, none⟩ (.int .i64 0)).setCell ⟨gb370, 2, none⟩ (.int .i64 0)).setCell ⟨gb370, 3, none⟩ (.string (⟨#[]⟩ : ByteArray))) g none) := ⟨zcj_10⟩
 have n6_ : Aside0 (Below w0.heap.size w0 ((((w19.setCell ⟨gb370, 0, none⟩ (.int .i64 (wrap64 ((rd y362 t365) + (wrap64 ((wrap64 (Int.tdiv t368 59)) * 5)))))).setCell ⟨gb370, 1, none⟩ (.int .i64 0)).setCell ⟨gb370, 2, none⟩ (.int .i64 0)).setCell ⟨gb370, 3, none⟩ (.string (⟨#[]⟩ : ByteArray)))) := ⟨zcj_11⟩
 (try clear HO364)
 (try clear BK360)
 (try clear BK361)
 (try clear BK370)
 (try clear HI0)
 (try clear HK)
 (try clear HB)
 generalize ((((w19.setCell ⟨gb370, 0, none⟩ (.int .i64 (wrap64 ((rd y362 t365) + (wrap64 ((wrap64 (Int.tdiv t368 59)) * 5)))))).setCell ⟨gb370, 1, none⟩ (.int .i64 0)).setCell ⟨gb370, 2, none⟩ (.int .i64 0)).setCell ⟨gb370, 3, none⟩ (.string (⟨#[]⟩ : ByteArray))) = w42 at n0_ n1_ n2_ n3_ n4_ n5_ n6_ ⊢
 have HO364 := n0_
 have BK360 := n1_
 have BK361 := n2_
 have BK370 := n3_
 have HI0 := n4_
 have HK := n5_
 have HB := n6_
 clear n0_ n1_ n2_ n3_ n4_ n5_ n6_
 refine zcj_f6 ?_
 clear HO364
 clear BK360
 clear BK361
 clear BK370
 clear HI0
 clear HK
 clear HB
 intro HO364 BK360 BK361 BK370 HI0 HK HB
 refine start_ (n := 9) (S := fun w' => w'.cell? ⟨gb360, 0, none⟩ = some (.int .i64 a1_0) ∧ w'.cell? ⟨gb360, 1, none⟩ = some (.slice A1_1 l1_1.length c1_1) ∧ w'.cell? ⟨gb360, 2, none⟩ = some (.slice A1_2 l1_2.length c1_2)) (ds := []) #[false, false, false, false, false, false, false, false, false] (by kernel_rfl) rfl rfl ⟨(blk_cell BK360.out 0).trans rfl, (blk_cell BK360.out 1).trans rfl, (blk_cell BK360.out 2).trans rfl⟩ (fun hHeld => ?_); refine with_tabW spec_l20Deed.tab7 spec_l20Deed.bits7 (fun HT_ HW_ => ?_)
 generalize w42.drew = w43 at HO364 BK360 BK361 BK370 HI0 HK HB hHeld ⊢
 refine pure_ (i := 0) (N := some 36) (v := ?_) (a' := ?_) #[true, false, false, false, false, false, false, false, false] rfl rfl (any_of HT_.out (by kernel_rfl)) (fun _ _ _ h => h) (Or.inl ⟨by rfl, ?_⟩) ?_ ?_
 rotate_left
 {
 intro w'
 go_simp
 with_reducible rfl
 }
 rotate_left
 {exact zcj_1}
 refine pure_ (i := 2) (N := some 38) (v := ?_) (a' := ?_) #[true, false, true, false, false, false, false, false, false] rfl rfl (any_of HT_.out (by kernel_rfl)) (fun _ _ _ h => h) (Or.inl ⟨by rfl, ?_⟩) ?_ ?_
 rotate_left
 {
 intro w'
 go_simp
 with_reducible rfl
 }
 rotate_left
 {exact zcj_1}
 refine pure_ (i := 3) (N := some 39) (v := ?_) (a' := ?_) #[true, false, true, true, false, false, false, false, false] rfl rfl (any_of HT_.out (by kernel_rfl)) (fun _ _ _ h => h) (Or.inl ⟨by rfl, ?_⟩) ?_ ?_
 rotate_left
 {
 intro w'
 go_simp
 with_reducible rfl
 }
 rotate_left
 {exact zcj_1}
 refine take_ (i := 1) (N := some 37) (v := ?_) (a' := ?_) #[true, true, true, true, false, false, false, false, false] rfl rfl (take_ofW HT_.out HW_.out (by kernel_rfl)) (fun _ _ _ h => h) (Or.inl ⟨by rfl, ?_⟩) hHeld ?_ ?_
 rotate_left
 {
 rintro w' ⟨s0, s1, s2⟩
 go_simp
 with_reducible rfl
 }
 rotate_left
 {exact zcj_1}
 refine take_ (i := 4) (N := some 40) (v := ?_) (a' := ?_) #[true, true, true, true, true, false, false, false, false] rfl rfl (take_ofW HT_.out HW_.out (by kernel_rfl)) (fun _ _ _ h => h) (Or.inl ⟨by rfl, ?_⟩) hHeld ?_ ?_
 rotate_left
 {
 rintro w' ⟨s0, s1, s2⟩
 go_simp
 with_reducible rfl
 }
 rotate_left
 {exact zcj_1}
 refine one_ (i := 5) (N := some 41) #[true, true, true, true, true, true, false, false, false] rfl rfl (one_of HT_.out (by kernel_rfl)) (by decide) (fun K hK => ?_)
 refine goes_ Tryd.func42 (by kernel_rfl) rfl #[.pointer (some ⟨g, 0, none⟩), .agg #[.int .i64 a1_0, .slice A1_1 l1_1.length c1_1], .int .i64 0] (by rfl) rfl rfl zcj_3 ?_
 with_reducible refine (spec_l20Term.calls k g s0_0 t369 a1_0 _ _ l1_1 0 t373 t376 w0 _ ?side1 ?side2 ?side3 ?side4 ?side5 A40.out).mono ?_
 (case side1 => exact zcj_8)
 (case side2 => exact zcj_11)
 (case side3 => exact zcj_101)
 (case side4 => exact HC1_1.out)
 (case side5 => exact hf1_1)
 rintro e w44 ⟨v374, rfl, ho0, hi, hb, hk⟩
 refine ⟨_, rfl, ?_⟩
 have n0_ := Aside0.mk (KeepBut.blk hk (g' := gb360) (o := .cells #[.int .i64 a1_0, .slice A1_1 l1_1.length c1_1, .slice A1_2 l1_2.length c1_2] 50 (0, 0)) zcj_6 NB360_0.out (by simp))
 have n1_ := Aside0.mk (KeepBut.blk hk (g' := gb361) (o := .cells #[.int .i64 0, .int .i64 0, .int .i64 0, .string (⟨#[]⟩ : ByteArray)] 30 (0, 0)) zcj_7 NB361_0.out (by simp))
 have n2_ := Aside0.mk (Kd.R_mono (Kd.R_keep (IsS63.apart (show IsS63 w0 _ g s0_0 t369 from by repeat (first | (with_reducible first | exact HI0.out | apply IsS63.alloc | apply IsS63.drewN | apply IsS63.drew | apply IsS63.set_1 | refine IsS63.far ?_ NB0_360.out _ | refine IsS63.far ?_ NB0_361.out _ | refine IsS63.far ?_ NB0_370.out _) | exact HI0.out)) zcj_16 (by decide)) hk (fun _ h => h.2)) (fun _ h => h.1))
 have n3_ := Aside0.mk (KeepBut.blk hk (g' := gb370) (o := .cells #[.int .i64 (wrap64 ((rd y362 t365) + (wrap64 ((wrap64 (Int.tdiv t368 59)) * 5)))), .int .i64 0, .int .i64 0, .string (⟨#[]⟩ : ByteArray)] 30 (0, 0)) zcj_14 NB370_0.out (by simp))
 have n4_ := Aside0.mk (Kd.V_lower (Kd.V_mono (ok' := fun k_ => some k_ ≠ (.slice (some adz_v363) y362.length co20 : Value).ownBlock ∧ k_ ≠ gb360 ∧ k_ ≠ gb361 ∧ k_ ≠ gb370 ∧ k_ ≠ g) ho0 (fun k_ hk_ => ⟨(Kd.fresh' (Kd.R_lt zcj_16) k_ hk_), (Kd.freshB (g := gb360) (o := .cells #[.int .i64 a1_0, .slice A1_1 l1_1.length c1_1, .slice A1_2 l1_2.length c1_2] 50 (0, 0)) zcj_6 k_ hk_), (Kd.freshB (g := gb361) (o := .cells #[.int .i64 0, .int .i64 0, .int .i64 0, .string (⟨#[]⟩ : ByteArray)] 30 (0, 0)) zcj_7 k_ hk_), (Kd.freshB (g := gb370) (o := .cells #[.int .i64 (wrap64 ((rd y362 t365) + (wrap64 ((wrap64 (Int.tdiv t368 59)) * 5)))), .int .i64 0, .int .i64 0, .string (⟨#[]⟩ : ByteArray)] 30 (0, 0)) zcj_14 k_ hk_), (IsS63.fresh zcj_8 k_ hk_)⟩)) (keep_size (w := w) (g := g) (row := none) zcj_10))
 have n5_ := Aside0.mk (KeepBut.trans zcj_10 hk (.inl rfl))
 have n6_ := Aside0.mk (hb)
 have n7_ := Aside0.mk (hi)
 clear BK360
 clear BK361
 clear HO364
 clear BK370
 clear HK
 clear HB
 clear HI0
 have BK360 := n0_
 have BK361 := n1_
 have HO364 := n2_
 have BK370 := n3_
 have HO375 := n4_
 have HK := n5_
 have HB := n6_
 have HI0 := n7_
 clear n0_ n1_ n2_ n3_ n4_ n5_ n6_ n7_
 (try clear hb)
 (try clear hb2)
 (try clear hk)
 (try clear hi)
 (try clear ho0)
 obtain ⟨Ao45, co45, eo45⟩ := Kd.V_slice HO375.out
 (first | subst eo45 | (injection eo45 with f1_ f2_ f3_; have f4_ := f1_.symm; have f5_ := f3_.symm; clear f1_ f2_ f3_; subst f4_; subst f5_))
 refine hK.out _ _ ⟨(blk_cell BK360.out 0).trans rfl, (blk_cell BK360.out 1).trans rfl, (blk_cell BK360.out 2).trans rfl⟩ (fun hHeld => ?_)
 clear hK K
 refine norm_ (a' := ?_) ?_ ?_
 rotate_left
 {show Act.put _ (some 41) _ = _; simp only [Act.put, List.setIfInBounds_toArray, List.set_cons_zero, List.set_cons_succ, i64_w, i32_w]; rfl}
 refine one_ (i := 6) (N := some 42) #[true, true, true, true, true, true, true, false, false] rfl rfl (one_of HT_.out (by kernel_rfl)) (by decide) (fun K hK => ?_)
 refine goes_ Tryd.func41 (by kernel_rfl) rfl #[.agg #[.int .i64 a1_0, .slice A1_1 l1_1.length c1_1], .slice Ao45 t373.length co45] (by rfl) rfl rfl zcj_3 ?_
 with_reducible refine (spec_TermText.calls k a1_0 _ _ l1_1 _ _ t373 t377 _ ?side1 ?side2 ?side3 ?side4 A41.out).mono ?_
 (case side1 => exact zcj_101)
 (case side2 => exact HC1_1.out)
 (case side3 => repeat (first | exact (Kd.V_reads' HO375.out).2.2 | (with_reducible refine Kd.C_alloc ?_ _) | (with_reducible refine Kd.C_drewN ?_ _) | (with_reducible refine Kd.C_drew ?_)))
 (case side4 => exact (Kd.V_reads' HO375.out).2.1)
 rintro e w46 ⟨rfl, hb⟩
 refine ⟨_, rfl, ?_⟩
 have n0_ := Aside0.mk (Kd.R_below zcj_16 hb)
 have n1_ := Aside0.mk (Kd.V_below (by (with_reducible repeat (first | apply Kd.V_alloc | apply Kd.V_drewN | apply Kd.V_drew)); exact HO375.out) hb)
 have n2_ := Aside0.mk (IsS63.below zcj_8 hb)
 have n3_ := Aside0.mk (blk_below (g := gb360) (o := .cells #[.int .i64 a1_0, .slice A1_1 l1_1.length c1_1, .slice A1_2 l1_2.length c1_2] 50 (0, 0)) zcj_6 hb)
 have n4_ := Aside0.mk (blk_below (g := gb361) (o := .cells #[.int .i64 0, .int .i64 0, .int .i64 0, .string (⟨#[]⟩ : ByteArray)] 30 (0, 0)) zcj_7 hb)
 have n5_ := Aside0.mk (blk_below (g := gb370) (o := .cells #[.int .i64 (wrap64 ((rd y362 t365) + (wrap64 ((wrap64 (Int.tdiv t368 59)) * 5)))), .int .i64 0, .int .i64 0, .string (⟨#[]⟩ : ByteArray)] 30 (0, 0)) zcj_14 hb)
 have n6_ := Aside0.mk (KeepBut.trans zcj_10 (KeepBut.of_below hb g none) (.inl rfl))
 have n7_ := Aside0.mk (below_step zcj_11 hb)
 clear HO364
 clear HO375
 clear HI0
 clear BK360
 clear BK361
 clear BK370
 clear HK
 clear HB
 have HO364 := n0_
 have HO375 := n1_
 have HI0 := n2_
 have BK360 := n3_
 have BK361 := n4_
 have BK370 := n5_
 have HK := n6_
 have HB := n7_
 clear n0_ n1_ n2_ n3_ n4_ n5_ n6_ n7_
 (try clear hb)
 (try clear hb2)
 (try clear hk)
 (try clear hi)
 refine hK.out _ _ ⟨(blk_cell BK360.out 0).trans rfl, (blk_cell BK360.out 1).trans rfl, (blk_cell BK360.out 2).trans rfl⟩ (fun hHeld => ?_)
 clear hK K
 refine norm_ (a' := ?_) ?_ ?_
 rotate_left
 {show Act.put _ (some 42) _ = _; simp only [Act.put, List.setIfInBounds_toArray, List.set_cons_zero, List.set_cons_succ, i64_w, i32_w]; rfl}
 refine pure_ (i := 7) (N := some 43) (v := ?_) (a' := ?_) #[true, true, true, true, true, true, true, true, false] rfl rfl (any_of HT_.out (by kernel_rfl)) (fun _ _ _ h => h) (Or.inl ⟨by rfl, ?_⟩) ?_ ?_
 rotate_left
 {
 intro w'
 go_simp
 with_reducible rfl
 }
 rotate_left
 {exact zcj_1}
 refine one_ (i := 8) (N := none) #[true, true, true, true, true, true, true, true, true] rfl rfl (one_of HT_.out (by kernel_rfl)) (by decide) (fun K hK => ?_)
 have hs47 : w46.cell? ⟨gb370, 3, none⟩ = some (.string (⟨#[]⟩ : ByteArray)) := (blk_cell BK370.out 3).trans rfl
 have hfs47 := blk_frozen BK370.out 3
 have hns47_0 := NB360_370.out
 have hns47_1 := NB361_370.out
 have hms47_0 := NB370_360.out
 have hms47_1 := NB370_361.out
 refine skip_ (w1 := ?_) (by rfl) rfl ?_ ?_
 rotate_left
 {go_simp; rfl}
 refine hK.out _ _ ⟨((cell_far (p := ⟨gb370, _, none⟩) NB360_370.out _).trans (hHeld.1)), ((cell_far (p := ⟨gb370, _, none⟩) NB360_370.out _).trans (hHeld.2.1)), ((cell_far (p := ⟨gb370, _, none⟩) NB360_370.out _).trans (hHeld.2.2))⟩ (fun hHeld => ?_)
 clear hK K
 refine done_ (done_of HT_.out (by kernel_rfl)) ?_
 try go_wp2
 go_meet
 case rel => exact ⟨_, (t376), (0), (0), (t377), H', ⟨zcj_38⟩, ⟨zcj_62⟩, ⟨zcj_63⟩, ⟨by (with_reducible repeat (first | refine blk_drewN ?_ _ | refine blk_drew ?_ | refine blk_alloc ?_ _)); refine blk_put (cs := #[.int .i64 (wrap64 ((rd y362 t365) + (wrap64 ((wrap64 (Int.tdiv t368 59)) * 5)))), .int .i64 0, .int .i64 0, .string (⟨#[]⟩ : ByteArray)]) ?_ 3 _ rfl; (with_reducible repeat (first | refine blk_drewN ?_ _ | refine blk_drew ?_ | refine blk_alloc ?_ _)); exact BK370.out⟩, ⟨zcj_8⟩, ⟨zcj_10⟩, ⟨zcj_11⟩⟩
 }
 {
 rw [if_neg c39] at H
 have c39b0 : ((wrap64 ((rd y362 t365) + (wrap64 ((wrap64 (Int.tdiv t368 59)) * 5)))) == 1) = false := beq_eq_false_iff_ne.mpr c39
 have c39b1 : ((wrap64 ((rd y362 t365) + (wrap64 ((wrap64 (Int.tdiv t368 59)) * 5)))) != 1) = true := bne_iff_ne.mpr c39
 by_cases c48 : (wrap64 ((rd y362 t365) + (wrap64 ((wrap64 (Int.tdiv t368 59)) * 5)))) = 2
 {
 rw [if_pos c48] at H
 have c48b0 : ((wrap64 ((rd y362 t365) + (wrap64 ((wrap64 (Int.tdiv t368 59)) * 5)))) == 2) = true := beq_iff_eq.mpr c48
 have c48b1 : ((wrap64 ((rd y362 t365) + (wrap64 ((wrap64 (Int.tdiv t368 59)) * 5)))) != 2) = false := bne_eq_false_iff_eq.mpr c48
 clear c48
 obtain ⟨ji49, hji49⟩ : ∃ j_ : Int, (mx (l1_2.length : Int) 1) = j_ := ⟨_, rfl⟩
 replace H : ((spec_l20Rd_pick.f k s0_0 t369 (ji49)).bind fun bt378 => ((spec_l20Rd_pick.f k s0_0 bt378.2 (wrap64 (2 ^ (ji8).toNat))).bind fun bt380 => ((spec_l20Rd_pick.f k s0_0 bt380.2 (wrap64 (2 ^ (ji8).toNat))).bind fun bt382 => ((spec_l20Term.f k s0_0 bt382.2 a1_0 l1_1 0).bind fun bt384 => ((spec_TermText.f k a1_0 l1_1 bt384.1).bind fun t388 => (spec_l20Deed.j0 k s0_0 bt384.2 (wrap64 ((rd y362 t365) + (wrap64 ((wrap64 (Int.tdiv t368 59)) * 5)))) bt378.1 (Go.bits .or .i64 bt380.1 bt382.1) t388)))))) = some (r1, r2, r3, r4, r5) := by first | (rw [hji49] at H; exact H) | (simp only [hji49] at H ⊢; exact H)
 (try (have hji49l : 1 ≤ ji49 := by (rw [← hji49]; unfold mx; (repeat' split) <;> omega)))
 (try (have hji49m : 0 ≤ ji49 := by omega))
 have hji49_ : (if (l1_2.length : Int) < 1 then 1 else (l1_2.length : Int)) = ji49 := hji49
 replace H := Option.bind_eq_some_iff.mp H
 obtain ⟨⟨t378, t379⟩, A500, H⟩ := H
 try dsimp only at H
 have A50 := Aside0.mk A500
 clear A500
 replace H := Option.bind_eq_some_iff.mp H
 obtain ⟨⟨t380, t381⟩, A510, H⟩ := H
 try dsimp only at H
 have A51 := Aside0.mk A510
 clear A510
 replace H := Option.bind_eq_some_iff.mp H
 obtain ⟨⟨t382, t383⟩, A520, H⟩ := H
 try dsimp only at H
 have A52 := Aside0.mk A520
 clear A520
 replace H := Option.bind_eq_some_iff.mp H
 obtain ⟨⟨t384, t387⟩, A530, H⟩ := H
 try dsimp only at H
 have A53 := Aside0.mk A530
 clear A530
 replace H := Option.bind_eq_some_iff.mp H
 obtain ⟨t388, A540, H⟩ := H
 try dsimp only at H
 have A54 := Aside0.mk A540
 clear A540
 have H' := Aside0.mk H
 clear H
 have hnb55 := NB360_361.out
 have hnc55 := NB361_360.out
 have hnb56 := NB360_370.out
 have hnc56 := NB370_360.out
 have hnb57 := NB360_0.out
 have hnc57 := NB0_360.out
 have hcz58_0 : w19.cell? ⟨gb360, 0, none⟩ = some (.int .i64 a1_0) := (blk_cell BK360.out 0).trans rfl
 have hcz58_1 : w19.cell? ⟨gb360, 1, none⟩ = some (.slice A1_1 l1_1.length c1_1) := (blk_cell BK360.out 1).trans rfl
 have hcz58_2 : w19.cell? ⟨gb360, 2, none⟩ = some (.slice A1_2 l1_2.length c1_2) := (blk_cell BK360.out 2).trans rfl
 have hfz58_0 := blk_frozen BK360.out 0
 have hfz58_1 := blk_frozen BK360.out 1
 have hfz58_2 := blk_frozen BK360.out 2
 try go_wp2_with (first | ((with_reducible refine gate_callee (f := 34) rfl ?_); refine goesL_ (some 51) rfl rfl Tryd.func34 (by kernel_rfl) rfl #[.pointer (some ⟨g, 0, none⟩), .int .i64 ji49] rfl (by (try simp only [List.map_toArray, List.map_cons, List.map_nil]); first | done | (simp only [hji49]; rfl) | rfl | (simp only [List.length_drop, List.length_take]; rfl)) ?_; (with_reducible refine (spec_l20Rd_pick.calls k g s0_0 t369 ji49 t378 t379 w0 _ ?side1 ?side2 A50.out).mono ?_); (case side1 => exact zcj_8); (case side2 => exact zcj_11); rintro e w59 ⟨rfl, hi, hb, hk⟩; refine ⟨_, rfl, ?_⟩; refine zcj_f13 ?_; clear BK360; clear BK361; clear HO364; clear BK370; clear HK; clear HB; clear HI0; intro BK360 BK361 HO364 BK370 HK HB HI0; (try clear hb); (try clear hb2); (try clear hk); (try clear hi); have hnb60 := NB370_361.out; have hnc60 := NB361_370.out; have hnb61 := NB370_0.out; have hnc61 := NB0_370.out; have hcz62_0 : w59.cell? ⟨gb370, 0, none⟩ = some (.int .i64 (wrap64 ((rd y362 t365) + (wrap64 ((wrap64 (Int.tdiv t368 59)) * 5))))) := (blk_cell BK370.out 0).trans rfl; have hcz62_1 : w59.cell? ⟨gb370, 1, none⟩ = some (.int .i64 0) := (blk_cell BK370.out 1).trans rfl; have hcz62_2 : w59.cell? ⟨gb370, 2, none⟩ = some (.int .i64 0) := (blk_cell BK370.out 2).trans rfl; have hcz62_3 : w59.cell? ⟨gb370, 3, none⟩ = some (.string (⟨#[]⟩ : ByteArray)) := (blk_cell BK370.out 3).trans rfl; have hfz62_0 := blk_frozen BK370.out 0; have hfz62_1 := blk_frozen BK370.out 1; have hfz62_2 := blk_frozen BK370.out 2; have hfz62_3 := blk_frozen BK370.out 3))
 have n0_ : Aside0 (Kd.R (Kd.int .i64) 3 (w59.setCell ⟨gb370, 1, none⟩ (.int .i64 t378)) w.heap.size (fun _ => True) (.slice (some adz_v363) y362.length co20) y362) := ⟨by (with_reducible repeat (first | apply Kd.R_alloc | apply Kd.R_drewN | apply Kd.R_drew)); exact Kd.R_mono (Kd.R_far (p := ⟨gb370, 1, none⟩) (Kd.R_types HO364.out BK370.out (by decide)) (fun _ hk => hk.2) (.int .i64 t378)) (fun _ hk => trivial)⟩
 have n1_ : Aside0 ((w59.setCell ⟨gb370, 1, none⟩ (.int .i64 t378)).heap[gb360]? = some (.cells #[.int .i64 a1_0, .slice A1_1 l1_1.length c1_1, .slice A1_2 l1_2.length c1_2] 50 (0, 0))) := ⟨zcj_62⟩
 have n2_ : Aside0 ((w59.setCell ⟨gb370, 1, none⟩ (.int .i64 t378)).heap[gb361]? = some (.cells #[.int .i64 0, .int .i64 0, .int .i64 0, .string (⟨#[]⟩ : ByteArray)] 30 (0, 0))) := ⟨zcj_63⟩
 have n3_ : Aside0 ((w59.setCell ⟨gb370, 1, none⟩ (.int .i64 t378)).heap[gb370]? = some (.cells #[.int .i64 (wrap64 ((rd y362 t365) + (wrap64 ((wrap64 (Int.tdiv t368 59)) * 5)))), .int .i64 t378, .int .i64 0, .string (⟨#[]⟩ : ByteArray)] 30 (0, 0))) := ⟨zcj_115⟩
 have n4_ : Aside0 (IsS63 w0 (w59.setCell ⟨gb370, 1, none⟩ (.int .i64 t378)) g s0_0 t379) := ⟨zcj_8⟩
 have n5_ : Aside0 (KeepBut w (w59.setCell ⟨gb370, 1, none⟩ (.int .i64 t378)) g none) := ⟨zcj_10⟩
 have n6_ : Aside0 (Below w0.heap.size w0 (w59.setCell ⟨gb370, 1, none⟩ (.int .i64 t378))) := ⟨zcj_11⟩
 (try clear HO364)
 (try clear BK360)
 (try clear BK361)
 (try clear BK370)
 (try clear HI0)
 (try clear HK)
 (try clear HB)
 generalize (w59.setCell ⟨gb370, 1, none⟩ (.int .i64 t378)) = w63 at n0_ n1_ n2_ n3_ n4_ n5_ n6_ ⊢
 have HO364 := n0_
 have BK360 := n1_
 have BK361 := n2_
 have BK370 := n3_
 have HI0 := n4_
 have HK := n5_
 have HB := n6_
 clear n0_ n1_ n2_ n3_ n4_ n5_ n6_
 refine zcj_f6 ?_
 clear HO364
 clear BK360
 clear BK361
 clear BK370
 clear HI0
 clear HK
 clear HB
 intro HO364 BK360 BK361 BK370 HI0 HK HB
 refine start_ (n := 11) (S := fun w' => True) (ds := []) #[false, false, false, false, false, false, false, false, false, false, false] (by kernel_rfl) rfl rfl trivial (fun hHeld => ?_); refine with_tabW spec_l20Deed.tab10 spec_l20Deed.bits10 (fun HT_ HW_ => ?_)
 generalize w63.drew = w64 at HO364 BK360 BK361 BK370 HI0 HK HB hHeld ⊢
 refine pure_ (i := 0) (N := some 53) (v := ?_) (a' := ?_) #[true, false, false, false, false, false, false, false, false, false, false] rfl rfl (any_of HT_.out (by kernel_rfl)) (fun _ _ _ h => h) (Or.inl ⟨by rfl, ?_⟩) ?_ ?_
 rotate_left
 {
 intro w'
 go_simp
 with_reducible rfl
 }
 rotate_left
 {exact zcj_1}
 refine pure_ (i := 1) (N := some 54) (v := ?_) (a' := ?_) #[true, true, false, false, false, false, false, false, false, false, false] rfl rfl (any_of HT_.out (by kernel_rfl)) (fun _ _ _ h => h) (Or.inl ⟨by rfl, ?_⟩) ?_ ?_
 rotate_left
 {
 intro w'
 go_simp
 with_reducible rfl
 }
 rotate_left
 {exact zcj_1}
 refine pure_ (i := 2) (N := some 55) (v := ?_) (a' := ?_) #[true, true, true, false, false, false, false, false, false, false, false] rfl rfl (any_of HT_.out (by kernel_rfl)) (fun _ _ _ h => h) (Or.inl ⟨by rfl, ?_⟩) ?_ ?_
 rotate_left
 {
 intro w'
 go_simp
 with_reducible rfl
 }
 rotate_left
 {exact zcj_1}
 refine pure_ (i := 4) (N := some 57) (v := ?_) (a' := ?_) #[true, true, true, false, true, false, false, false, false, false, false] rfl rfl (any_of HT_.out (by kernel_rfl)) (fun _ _ _ h => h) (Or.inl ⟨by rfl, ?_⟩) ?_ ?_
 rotate_left
 {
 intro w'
 go_simp
 with_reducible rfl
 }
 rotate_left
 {exact zcj_1}
 refine pure_ (i := 5) (N := some 58) (v := ?_) (a' := ?_) #[true, true, true, false, true, true, false, false, false, false, false] rfl rfl (any_of HT_.out (by kernel_rfl)) (fun _ _ _ h => h) (Or.inl ⟨by rfl, ?_⟩) ?_ ?_
 rotate_left
 {
 intro w'
 go_simp
 with_reducible rfl
 }
 rotate_left
 {exact zcj_1}
 refine pure_ (i := 6) (N := some 59) (v := ?_) (a' := ?_) #[true, true, true, false, true, true, true, false, false, false, false] rfl rfl (any_of HT_.out (by kernel_rfl)) (fun _ _ _ h => h) (Or.inl ⟨by rfl, ?_⟩) ?_ ?_
 rotate_left
 {
 intro w'
 go_simp
 with_reducible rfl
 }
 rotate_left
 {exact zcj_1}
 refine one_ (i := 3) (N := some 56) #[true, true, true, true, true, true, true, false, false, false, false] rfl rfl (one_of HT_.out (by kernel_rfl)) (by decide) (fun K hK => ?_)
 refine goes_ Tryd.func34 (by kernel_rfl) rfl #[.pointer (some ⟨g, 0, none⟩), .int .i64 (wrap64 (2 ^ (ji8).toNat))] (by rfl) rfl rfl zcj_86 ?_
 with_reducible refine (spec_l20Rd_pick.calls k g s0_0 t379 (wrap64 (2 ^ (ji8).toNat)) t380 t381 w0 _ ?side1 ?side2 A51.out).mono ?_
 (case side1 => exact zcj_8)
 (case side2 => exact zcj_11)
 rintro e w65 ⟨rfl, hi, hb, hk⟩
 refine ⟨_, rfl, ?_⟩
 have n0_ := Aside0.mk (KeepBut.blk hk (g' := gb360) (o := .cells #[.int .i64 a1_0, .slice A1_1 l1_1.length c1_1, .slice A1_2 l1_2.length c1_2] 50 (0, 0)) zcj_6 NB360_0.out (by simp))
 have n1_ := Aside0.mk (KeepBut.blk hk (g' := gb361) (o := .cells #[.int .i64 0, .int .i64 0, .int .i64 0, .string (⟨#[]⟩ : ByteArray)] 30 (0, 0)) zcj_7 NB361_0.out (by simp))
 have n2_ := Aside0.mk (Kd.R_mono (Kd.R_keep (IsS63.apart (show IsS63 w0 _ g s0_0 t379 from by repeat (first | (with_reducible first | exact HI0.out | apply IsS63.alloc | apply IsS63.drewN | apply IsS63.drew | apply IsS63.set_1 | refine IsS63.far ?_ NB0_360.out _ | refine IsS63.far ?_ NB0_361.out _ | refine IsS63.far ?_ NB0_370.out _) | exact HI0.out)) zcj_16 (by decide)) hk (fun _ h => h.2)) (fun _ h => h.1))
 have n3_ := Aside0.mk (KeepBut.blk hk (g' := gb370) (o := .cells #[.int .i64 (wrap64 ((rd y362 t365) + (wrap64 ((wrap64 (Int.tdiv t368 59)) * 5)))), .int .i64 t378, .int .i64 0, .string (⟨#[]⟩ : ByteArray)] 30 (0, 0)) zcj_14 NB370_0.out (by simp))
 have n4_ := Aside0.mk (KeepBut.trans zcj_10 hk (.inl rfl))
 have n5_ := Aside0.mk (hb)
 have n6_ := Aside0.mk (hi)
 clear BK360
 clear BK361
 clear HO364
 clear BK370
 clear HK
 clear HB
 clear HI0
 have BK360 := n0_
 have BK361 := n1_
 have HO364 := n2_
 have BK370 := n3_
 have HK := n4_
 have HB := n5_
 have HI0 := n6_
 clear n0_ n1_ n2_ n3_ n4_ n5_ n6_
 (try clear hb)
 (try clear hb2)
 (try clear hk)
 (try clear hi)
 refine hK.out _ _ trivial (fun hHeld => ?_)
 clear hK K
 refine norm_ (a' := ?_) ?_ ?_
 rotate_left
 {show Act.put _ (some 56) _ = _; simp only [Act.put, List.setIfInBounds_toArray, List.set_cons_zero, List.set_cons_succ, i64_w, i32_w]; rfl}
 refine one_ (i := 7) (N := some 60) #[true, true, true, true, true, true, true, true, false, false, false] rfl rfl (one_of HT_.out (by kernel_rfl)) (by decide) (fun K hK => ?_)
 refine goes_ Tryd.func34 (by kernel_rfl) rfl #[.pointer (some ⟨g, 0, none⟩), .int .i64 (wrap64 (2 ^ (ji8).toNat))] (by rfl) rfl rfl zcj_86 ?_
 with_reducible refine (spec_l20Rd_pick.calls k g s0_0 t381 (wrap64 (2 ^ (ji8).toNat)) t382 t383 w0 _ ?side1 ?side2 A52.out).mono ?_
 (case side1 => exact zcj_8)
 (case side2 => exact zcj_11)
 rintro e w66 ⟨rfl, hi, hb, hk⟩
 refine ⟨_, rfl, ?_⟩
 have n0_ := Aside0.mk (KeepBut.blk hk (g' := gb360) (o := .cells #[.int .i64 a1_0, .slice A1_1 l1_1.length c1_1, .slice A1_2 l1_2.length c1_2] 50 (0, 0)) zcj_6 NB360_0.out (by simp))
 have n1_ := Aside0.mk (KeepBut.blk hk (g' := gb361) (o := .cells #[.int .i64 0, .int .i64 0, .int .i64 0, .string (⟨#[]⟩ : ByteArray)] 30 (0, 0)) zcj_7 NB361_0.out (by simp))
 have n2_ := Aside0.mk (Kd.R_mono (Kd.R_keep (IsS63.apart (show IsS63 w0 _ g s0_0 t381 from by repeat (first | (with_reducible first | exact HI0.out | apply IsS63.alloc | apply IsS63.drewN | apply IsS63.drew | apply IsS63.set_1 | refine IsS63.far ?_ NB0_360.out _ | refine IsS63.far ?_ NB0_361.out _ | refine IsS63.far ?_ NB0_370.out _) | exact HI0.out)) zcj_16 (by decide)) hk (fun _ h => h.2)) (fun _ h => h.1))
 have n3_ := Aside0.mk (KeepBut.blk hk (g' := gb370) (o := .cells #[.int .i64 (wrap64 ((rd y362 t365) + (wrap64 ((wrap64 (Int.tdiv t368 59)) * 5)))), .int .i64 t378, .int .i64 0, .string (⟨#[]⟩ : ByteArray)] 30 (0, 0)) zcj_14 NB370_0.out (by simp))
 have n4_ := Aside0.mk (KeepBut.trans zcj_10 hk (.inl rfl))
 have n5_ := Aside0.mk (hb)
 have n6_ := Aside0.mk (hi)
 clear BK360
 clear BK361
 clear HO364
 clear BK370
 clear HK
 clear HB
 clear HI0
 have BK360 := n0_
 have BK361 := n1_
 have HO364 := n2_
 have BK370 := n3_
 have HK := n4_
 have HB := n5_
 have HI0 := n6_
 clear n0_ n1_ n2_ n3_ n4_ n5_ n6_
 (try clear hb)
 (try clear hb2)
 (try clear hk)
 (try clear hi)
 refine hK.out _ _ trivial (fun hHeld => ?_)
 clear hK K
 refine norm_ (a' := ?_) ?_ ?_
 rotate_left
 {show Act.put _ (some 60) _ = _; simp only [Act.put, List.setIfInBounds_toArray, List.set_cons_zero, List.set_cons_succ, i64_w, i32_w]; rfl}
 refine pure_ (i := 8) (N := some 61) (v := ?_) (a' := ?_) #[true, true, true, true, true, true, true, true, true, false, false] rfl rfl (any_of HT_.out (by kernel_rfl)) (fun _ _ _ h => h) (Or.inl ⟨by rfl, ?_⟩) ?_ ?_
 rotate_left
 {
 intro w'
 go_simp
 with_reducible rfl
 }
 rotate_left
 {exact zcj_1}
 refine pure_ (i := 9) (N := some 62) (v := ?_) (a' := ?_) #[true, true, true, true, true, true, true, true, true, true, false] rfl rfl (any_of HT_.out (by kernel_rfl)) (fun _ _ _ h => h) (Or.inl ⟨by rfl, ?_⟩) ?_ ?_
 rotate_left
 {
 intro w'
 go_simp
 with_reducible rfl
 }
 rotate_left
 {exact zcj_1}
 refine one_ (i := 10) (N := none) #[true, true, true, true, true, true, true, true, true, true, true] rfl rfl (one_of HT_.out (by kernel_rfl)) (by decide) (fun K hK => ?_)
 have hs67 : w66.cell? ⟨gb370, 2, none⟩ = some (.int .i64 0) := (blk_cell BK370.out 2).trans rfl
 have hfs67 := blk_frozen BK370.out 2
 have hns67_0 := NB360_370.out
 have hns67_1 := NB361_370.out
 have hms67_0 := NB370_360.out
 have hms67_1 := NB370_361.out
 refine skip_ (w1 := ?_) (by rfl) rfl ?_ ?_
 rotate_left
 {go_simp; rfl}
 refine hK.out _ _ trivial (fun hHeld => ?_)
 clear hK K
 refine done_ (done_of HT_.out (by kernel_rfl)) ?_
 try go_wp2
 have n0_ : Aside0 (Kd.R (Kd.int .i64) 3 (w66.setCell ⟨gb370, 2, none⟩ (.int .i64 (Go.bits .or .i64 t380 t382))) w.heap.size (fun _ => True) (.slice (some adz_v363) y362.length co20) y362) := ⟨by (with_reducible repeat (first | apply Kd.R_alloc | apply Kd.R_drewN | apply Kd.R_drew)); exact Kd.R_mono (Kd.R_far (p := ⟨gb370, 2, none⟩) (Kd.R_types HO364.out BK370.out (by decide)) (fun _ hk => hk.2) (.int .i64 (Go.bits .or .i64 t380 t382))) (fun _ hk => trivial)⟩
 have n1_ : Aside0 ((w66.setCell ⟨gb370, 2, none⟩ (.int .i64 (Go.bits .or .i64 t380 t382))).heap[gb360]? = some (.cells #[.int .i64 a1_0, .slice A1_1 l1_1.length c1_1, .slice A1_2 l1_2.length c1_2] 50 (0, 0))) := ⟨zcj_62⟩
 have n2_ : Aside0 ((w66.setCell ⟨gb370, 2, none⟩ (.int .i64 (Go.bits .or .i64 t380 t382))).heap[gb361]? = some (.cells #[.int .i64 0, .int .i64 0, .int .i64 0, .string (⟨#[]⟩ : ByteArray)] 30 (0, 0))) := ⟨zcj_63⟩
 have n3_ : Aside0 ((w66.setCell ⟨gb370, 2, none⟩ (.int .i64 (Go.bits .or .i64 t380 t382))).heap[gb370]? = some (.cells #[.int .i64 (wrap64 ((rd y362 t365) + (wrap64 ((wrap64 (Int.tdiv t368 59)) * 5)))), .int .i64 t378, .int .i64 (Go.bits .or .i64 t380 t382), .string (⟨#[]⟩ : ByteArray)] 30 (0, 0))) := ⟨by (with_reducible repeat (first | refine blk_drewN ?_ _ | refine blk_drew ?_ | refine blk_alloc ?_ _)); refine blk_put (cs := #[.int .i64 (wrap64 ((rd y362 t365) + (wrap64 ((wrap64 (Int.tdiv t368 59)) * 5)))), .int .i64 t378, .int .i64 0, .string (⟨#[]⟩ : ByteArray)]) ?_ 2 _ rfl; (with_reducible repeat (first | refine blk_drewN ?_ _ | refine blk_drew ?_ | refine blk_alloc ?_ _)); exact BK370.out⟩
 have n4_ : Aside0 (IsS63 w0 (w66.setCell ⟨gb370, 2, none⟩ (.int .i64 (Go.bits .or .i64 t380 t382))) g s0_0 t383) := ⟨zcj_8⟩
 have n5_ : Aside0 (KeepBut w (w66.setCell ⟨gb370, 2, none⟩ (.int .i64 (Go.bits .or .i64 t380 t382))) g none) := ⟨zcj_10⟩
 have n6_ : Aside0 (Below w0.heap.size w0 (w66.setCell ⟨gb370, 2, none⟩ (.int .i64 (Go.bits .or .i64 t380 t382)))) := ⟨zcj_11⟩
 (try clear HO364)
 (try clear BK360)
 (try clear BK361)
 (try clear BK370)
 (try clear HI0)
 (try clear HK)
 (try clear HB)
 generalize (w66.setCell ⟨gb370, 2, none⟩ (.int .i64 (Go.bits .or .i64 t380 t382))) = w68 at n0_ n1_ n2_ n3_ n4_ n5_ n6_ ⊢
 have HO364 := n0_
 have BK360 := n1_
 have BK361 := n2_
 have BK370 := n3_
 have HI0 := n4_
 have HK := n5_
 have HB := n6_
 clear n0_ n1_ n2_ n3_ n4_ n5_ n6_
 refine zcj_f6 ?_
 clear HO364
 clear BK360
 clear BK361
 clear BK370
 clear HI0
 clear HK
 clear HB
 intro HO364 BK360 BK361 BK370 HI0 HK HB
 refine start_ (n := 9) (S := fun w' => w'.cell? ⟨gb360, 0, none⟩ = some (.int .i64 a1_0) ∧ w'.cell? ⟨gb360, 1, none⟩ = some (.slice A1_1 l1_1.length c1_1) ∧ w'.cell? ⟨gb360, 2, none⟩ = some (.slice A1_2 l1_2.length c1_2)) (ds := []) #[false, false, false, false, false, false, false, false, false] (by kernel_rfl) rfl rfl ⟨(blk_cell BK360.out 0).trans rfl, (blk_cell BK360.out 1).trans rfl, (blk_cell BK360.out 2).trans rfl⟩ (fun hHeld => ?_); refine with_tabW spec_l20Deed.tab11 spec_l20Deed.bits11 (fun HT_ HW_ => ?_)
 generalize w68.drew = w69 at HO364 BK360 BK361 BK370 HI0 HK HB hHeld ⊢
 refine pure_ (i := 0) (N := some 63) (v := ?_) (a' := ?_) #[true, false, false, false, false, false, false, false, false] rfl rfl (any_of HT_.out (by kernel_rfl)) (fun _ _ _ h => h) (Or.inl ⟨by rfl, ?_⟩) ?_ ?_
 rotate_left
 {
 intro w'
 go_simp
 with_reducible rfl
 }
 rotate_left
 {exact zcj_1}
 refine pure_ (i := 2) (N := some 65) (v := ?_) (a' := ?_) #[true, false, true, false, false, false, false, false, false] rfl rfl (any_of HT_.out (by kernel_rfl)) (fun _ _ _ h => h) (Or.inl ⟨by rfl, ?_⟩) ?_ ?_
 rotate_left
 {
 intro w'
 go_simp
 with_reducible rfl
 }
 rotate_left
 {exact zcj_1}
 refine pure_ (i := 3) (N := some 66) (v := ?_) (a' := ?_) #[true, false, true, true, false, false, false, false, false] rfl rfl (any_of HT_.out (by kernel_rfl)) (fun _ _ _ h => h) (Or.inl ⟨by rfl, ?_⟩) ?_ ?_
 rotate_left
 {
 intro w'
 go_simp
 with_reducible rfl
 }
 rotate_left
 {exact zcj_1}
 refine take_ (i := 1) (N := some 64) (v := ?_) (a' := ?_) #[true, true, true, true, false, false, false, false, false] rfl rfl (take_ofW HT_.out HW_.out (by kernel_rfl)) (fun _ _ _ h => h) (Or.inl ⟨by rfl, ?_⟩) hHeld ?_ ?_
 rotate_left
 {
 rintro w' ⟨s0, s1, s2⟩
 go_simp
 with_reducible rfl
 }
 rotate_left
 {exact zcj_1}
 refine take_ (i := 4) (N := some 67) (v := ?_) (a' := ?_) #[true, true, true, true, true, false, false, false, false] rfl rfl (take_ofW HT_.out HW_.out (by kernel_rfl)) (fun _ _ _ h => h) (Or.inl ⟨by rfl, ?_⟩) hHeld ?_ ?_
 rotate_left
 {
 rintro w' ⟨s0, s1, s2⟩
 go_simp
 with_reducible rfl
 }
 rotate_left
 {exact zcj_1}
 refine one_ (i := 5) (N := some 68) #[true, true, true, true, true, true, false, false, false] rfl rfl (one_of HT_.out (by kernel_rfl)) (by decide) (fun K hK => ?_)
 refine goes_ Tryd.func42 (by kernel_rfl) rfl #[.pointer (some ⟨g, 0, none⟩), .agg #[.int .i64 a1_0, .slice A1_1 l1_1.length c1_1], .int .i64 0] (by rfl) rfl rfl zcj_3 ?_
 with_reducible refine (spec_l20Term.calls k g s0_0 t383 a1_0 _ _ l1_1 0 t384 t387 w0 _ ?side1 ?side2 ?side3 ?side4 ?side5 A53.out).mono ?_
 (case side1 => exact zcj_8)
 (case side2 => exact zcj_11)
 (case side3 => exact zcj_101)
 (case side4 => exact HC1_1.out)
 (case side5 => exact hf1_1)
 rintro e w70 ⟨v385, rfl, ho0, hi, hb, hk⟩
 refine ⟨_, rfl, ?_⟩
 have n0_ := Aside0.mk (KeepBut.blk hk (g' := gb360) (o := .cells #[.int .i64 a1_0, .slice A1_1 l1_1.length c1_1, .slice A1_2 l1_2.length c1_2] 50 (0, 0)) zcj_6 NB360_0.out (by simp))
 have n1_ := Aside0.mk (KeepBut.blk hk (g' := gb361) (o := .cells #[.int .i64 0, .int .i64 0, .int .i64 0, .string (⟨#[]⟩ : ByteArray)] 30 (0, 0)) zcj_7 NB361_0.out (by simp))
 have n2_ := Aside0.mk (Kd.R_mono (Kd.R_keep (IsS63.apart (show IsS63 w0 _ g s0_0 t383 from by repeat (first | (with_reducible first | exact HI0.out | apply IsS63.alloc | apply IsS63.drewN | apply IsS63.drew | apply IsS63.set_1 | refine IsS63.far ?_ NB0_360.out _ | refine IsS63.far ?_ NB0_361.out _ | refine IsS63.far ?_ NB0_370.out _) | exact HI0.out)) zcj_16 (by decide)) hk (fun _ h => h.2)) (fun _ h => h.1))
 have n3_ := Aside0.mk (KeepBut.blk hk (g' := gb370) (o := .cells #[.int .i64 (wrap64 ((rd y362 t365) + (wrap64 ((wrap64 (Int.tdiv t368 59)) * 5)))), .int .i64 t378, .int .i64 (Go.bits .or .i64 t380 t382), .string (⟨#[]⟩ : ByteArray)] 30 (0, 0)) zcj_14 NB370_0.out (by simp))
 have n4_ := Aside0.mk (Kd.V_lower (Kd.V_mono (ok' := fun k_ => some k_ ≠ (.slice (some adz_v363) y362.length co20 : Value).ownBlock ∧ k_ ≠ gb360 ∧ k_ ≠ gb361 ∧ k_ ≠ gb370 ∧ k_ ≠ g) ho0 (fun k_ hk_ => ⟨(Kd.fresh' (Kd.R_lt zcj_16) k_ hk_), (Kd.freshB (g := gb360) (o := .cells #[.int .i64 a1_0, .slice A1_1 l1_1.length c1_1, .slice A1_2 l1_2.length c1_2] 50 (0, 0)) zcj_6 k_ hk_), (Kd.freshB (g := gb361) (o := .cells #[.int .i64 0, .int .i64 0, .int .i64 0, .string (⟨#[]⟩ : ByteArray)] 30 (0, 0)) zcj_7 k_ hk_), (Kd.freshB (g := gb370) (o := .cells #[.int .i64 (wrap64 ((rd y362 t365) + (wrap64 ((wrap64 (Int.tdiv t368 59)) * 5)))), .int .i64 t378, .int .i64 (Go.bits .or .i64 t380 t382), .string (⟨#[]⟩ : ByteArray)] 30 (0, 0)) zcj_14 k_ hk_), (IsS63.fresh zcj_8 k_ hk_)⟩)) (keep_size (w := w) (g := g) (row := none) zcj_10))
 have n5_ := Aside0.mk (KeepBut.trans zcj_10 hk (.inl rfl))
 have n6_ := Aside0.mk (hb)
 have n7_ := Aside0.mk (hi)
 clear BK360
 clear BK361
 clear HO364
 clear BK370
 clear HK
 clear HB
 clear HI0
 have BK360 := n0_
 have BK361 := n1_
 have HO364 := n2_
 have BK370 := n3_
 have HO386 := n4_
 have HK := n5_
 have HB := n6_
 have HI0 := n7_
 clear n0_ n1_ n2_ n3_ n4_ n5_ n6_ n7_
 (try clear hb)
 (try clear hb2)
 (try clear hk)
 (try clear hi)
 (try clear ho0)
 obtain ⟨Ao71, co71, eo71⟩ := Kd.V_slice HO386.out
 (first | subst eo71 | (injection eo71 with f1_ f2_ f3_; have f4_ := f1_.symm; have f5_ := f3_.symm; clear f1_ f2_ f3_; subst f4_; subst f5_))
 refine hK.out _ _ ⟨(blk_cell BK360.out 0).trans rfl, (blk_cell BK360.out 1).trans rfl, (blk_cell BK360.out 2).trans rfl⟩ (fun hHeld => ?_)
 clear hK K
 refine norm_ (a' := ?_) ?_ ?_
 rotate_left
 {show Act.put _ (some 68) _ = _; simp only [Act.put, List.setIfInBounds_toArray, List.set_cons_zero, List.set_cons_succ, i64_w, i32_w]; rfl}
 refine one_ (i := 6) (N := some 69) #[true, true, true, true, true, true, true, false, false] rfl rfl (one_of HT_.out (by kernel_rfl)) (by decide) (fun K hK => ?_)
 refine goes_ Tryd.func41 (by kernel_rfl) rfl #[.agg #[.int .i64 a1_0, .slice A1_1 l1_1.length c1_1], .slice Ao71 t384.length co71] (by rfl) rfl rfl zcj_3 ?_
 with_reducible refine (spec_TermText.calls k a1_0 _ _ l1_1 _ _ t384 t388 _ ?side1 ?side2 ?side3 ?side4 A54.out).mono ?_
 (case side1 => exact zcj_101)
 (case side2 => exact HC1_1.out)
 (case side3 => repeat (first | exact (Kd.V_reads' HO386.out).2.2 | (with_reducible refine Kd.C_alloc ?_ _) | (with_reducible refine Kd.C_drewN ?_ _) | (with_reducible refine Kd.C_drew ?_)))
 (case side4 => exact (Kd.V_reads' HO386.out).2.1)
 rintro e w72 ⟨rfl, hb⟩
 refine ⟨_, rfl, ?_⟩
 have n0_ := Aside0.mk (Kd.R_below zcj_16 hb)
 have n1_ := Aside0.mk (Kd.V_below (by (with_reducible repeat (first | apply Kd.V_alloc | apply Kd.V_drewN | apply Kd.V_drew)); exact HO386.out) hb)
 have n2_ := Aside0.mk (IsS63.below zcj_8 hb)
 have n3_ := Aside0.mk (blk_below (g := gb360) (o := .cells #[.int .i64 a1_0, .slice A1_1 l1_1.length c1_1, .slice A1_2 l1_2.length c1_2] 50 (0, 0)) zcj_6 hb)
 have n4_ := Aside0.mk (blk_below (g := gb361) (o := .cells #[.int .i64 0, .int .i64 0, .int .i64 0, .string (⟨#[]⟩ : ByteArray)] 30 (0, 0)) zcj_7 hb)
 have n5_ := Aside0.mk (blk_below (g := gb370) (o := .cells #[.int .i64 (wrap64 ((rd y362 t365) + (wrap64 ((wrap64 (Int.tdiv t368 59)) * 5)))), .int .i64 t378, .int .i64 (Go.bits .or .i64 t380 t382), .string (⟨#[]⟩ : ByteArray)] 30 (0, 0)) zcj_14 hb)
 have n6_ := Aside0.mk (KeepBut.trans zcj_10 (KeepBut.of_below hb g none) (.inl rfl))
 have n7_ := Aside0.mk (below_step zcj_11 hb)
 clear HO364
 clear HO386
 clear HI0
 clear BK360
 clear BK361
 clear BK370
 clear HK
 clear HB
 have HO364 := n0_
 have HO386 := n1_
 have HI0 := n2_
 have BK360 := n3_
 have BK361 := n4_
 have BK370 := n5_
 have HK := n6_
 have HB := n7_
 clear n0_ n1_ n2_ n3_ n4_ n5_ n6_ n7_
 (try clear hb)
 (try clear hb2)
 (try clear hk)
 (try clear hi)
 refine hK.out _ _ ⟨(blk_cell BK360.out 0).trans rfl, (blk_cell BK360.out 1).trans rfl, (blk_cell BK360.out 2).trans rfl⟩ (fun hHeld => ?_)
 clear hK K
 refine norm_ (a' := ?_) ?_ ?_
 rotate_left
 {show Act.put _ (some 69) _ = _; simp only [Act.put, List.setIfInBounds_toArray, List.set_cons_zero, List.set_cons_succ, i64_w, i32_w]; rfl}
 refine pure_ (i := 7) (N := some 70) (v := ?_) (a' := ?_) #[true, true, true, true, true, true, true, true, false] rfl rfl (any_of HT_.out (by kernel_rfl)) (fun _ _ _ h => h) (Or.inl ⟨by rfl, ?_⟩) ?_ ?_
 rotate_left
 {
 intro w'
 go_simp
 with_reducible rfl
 }
 rotate_left
 {exact zcj_1}
 refine one_ (i := 8) (N := none) #[true, true, true, true, true, true, true, true, true] rfl rfl (one_of HT_.out (by kernel_rfl)) (by decide) (fun K hK => ?_)
 have hs73 : w72.cell? ⟨gb370, 3, none⟩ = some (.string (⟨#[]⟩ : ByteArray)) := (blk_cell BK370.out 3).trans rfl
 have hfs73 := blk_frozen BK370.out 3
 have hns73_0 := NB360_370.out
 have hns73_1 := NB361_370.out
 have hms73_0 := NB370_360.out
 have hms73_1 := NB370_361.out
 refine skip_ (w1 := ?_) (by rfl) rfl ?_ ?_
 rotate_left
 {go_simp; rfl}
 refine hK.out _ _ ⟨((cell_far (p := ⟨gb370, _, none⟩) NB360_370.out _).trans (hHeld.1)), ((cell_far (p := ⟨gb370, _, none⟩) NB360_370.out _).trans (hHeld.2.1)), ((cell_far (p := ⟨gb370, _, none⟩) NB360_370.out _).trans (hHeld.2.2))⟩ (fun hHeld => ?_)
 clear hK K
 refine done_ (done_of HT_.out (by kernel_rfl)) ?_
 try go_wp2
 go_meet
 case rel => exact ⟨_, (t387), (t378), (Go.bits .or .i64 t380 t382), (t388), H', ⟨zcj_38⟩, ⟨zcj_62⟩, ⟨zcj_63⟩, ⟨by (with_reducible repeat (first | refine blk_drewN ?_ _ | refine blk_drew ?_ | refine blk_alloc ?_ _)); refine blk_put (cs := #[.int .i64 (wrap64 ((rd y362 t365) + (wrap64 ((wrap64 (Int.tdiv t368 59)) * 5)))), .int .i64 t378, .int .i64 (Go.bits .or .i64 t380 t382), .string (⟨#[]⟩ : ByteArray)]) ?_ 3 _ rfl; (with_reducible repeat (first | refine blk_drewN ?_ _ | refine blk_drew ?_ | refine blk_alloc ?_ _)); exact BK370.out⟩, ⟨zcj_8⟩, ⟨zcj_10⟩, ⟨zcj_11⟩⟩
 }
 {
 rw [if_neg c48] at H
 have c48b0 : ((wrap64 ((rd y362 t365) + (wrap64 ((wrap64 (Int.tdiv t368 59)) * 5)))) == 2) = false := beq_eq_false_iff_ne.mpr c48
 have c48b1 : ((wrap64 ((rd y362 t365) + (wrap64 ((wrap64 (Int.tdiv t368 59)) * 5)))) != 2) = true := bne_iff_ne.mpr c48
 by_cases c74 : (wrap64 ((rd y362 t365) + (wrap64 ((wrap64 (Int.tdiv t368 59)) * 5)))) = 3
 {
 rw [if_pos c74] at H
 have c74b0 : ((wrap64 ((rd y362 t365) + (wrap64 ((wrap64 (Int.tdiv t368 59)) * 5)))) == 3) = true := beq_iff_eq.mpr c74
 have c74b1 : ((wrap64 ((rd y362 t365) + (wrap64 ((wrap64 (Int.tdiv t368 59)) * 5)))) != 3) = false := bne_eq_false_iff_eq.mpr c74
 clear c74
 obtain ⟨ji75, hji75⟩ : ∃ j_ : Int, (mx (l1_2.length : Int) 1) = j_ := ⟨_, rfl⟩
 replace H : ((spec_l20Rd_pick.f k s0_0 t369 (ji75)).bind fun bt389 => ((spec_l20Rd_pick.f k s0_0 bt389.2 (wrap64 (2 ^ (ji8).toNat))).bind fun bt391 => ((spec_l20Rd_pick.f k s0_0 bt391.2 (wrap64 (2 ^ (ji8).toNat))).bind fun bt393 => (spec_l20Deed.j0 k s0_0 bt393.2 (wrap64 ((rd y362 t365) + (wrap64 ((wrap64 (Int.tdiv t368 59)) * 5)))) bt389.1 (Go.bits .or .i64 bt391.1 bt393.1) (⟨#[]⟩ : ByteArray))))) = some (r1, r2, r3, r4, r5) := by first | (rw [hji75] at H; exact H) | (simp only [hji75] at H ⊢; exact H)
 (try (have hji75l : 1 ≤ ji75 := by (rw [← hji75]; unfold mx; (repeat' split) <;> omega)))
 (try (have hji75m : 0 ≤ ji75 := by omega))
 have hji75_ : (if (l1_2.length : Int) < 1 then 1 else (l1_2.length : Int)) = ji75 := hji75
 replace H := Option.bind_eq_some_iff.mp H
 obtain ⟨⟨t389, t390⟩, A760, H⟩ := H
 try dsimp only at H
 have A76 := Aside0.mk A760
 clear A760
 replace H := Option.bind_eq_some_iff.mp H
 obtain ⟨⟨t391, t392⟩, A770, H⟩ := H
 try dsimp only at H
 have A77 := Aside0.mk A770
 clear A770
 replace H := Option.bind_eq_some_iff.mp H
 obtain ⟨⟨t393, t394⟩, A780, H⟩ := H
 try dsimp only at H
 have A78 := Aside0.mk A780
 clear A780
 have H' := Aside0.mk H
 clear H
 have hnb79 := NB360_361.out
 have hnc79 := NB361_360.out
 have hnb80 := NB360_370.out
 have hnc80 := NB370_360.out
 have hnb81 := NB360_0.out
 have hnc81 := NB0_360.out
 have hcz82_0 : w19.cell? ⟨gb360, 0, none⟩ = some (.int .i64 a1_0) := (blk_cell BK360.out 0).trans rfl
 have hcz82_1 : w19.cell? ⟨gb360, 1, none⟩ = some (.slice A1_1 l1_1.length c1_1) := (blk_cell BK360.out 1).trans rfl
 have hcz82_2 : w19.cell? ⟨gb360, 2, none⟩ = some (.slice A1_2 l1_2.length c1_2) := (blk_cell BK360.out 2).trans rfl
 have hfz82_0 := blk_frozen BK360.out 0
 have hfz82_1 := blk_frozen BK360.out 1
 have hfz82_2 := blk_frozen BK360.out 2
 try go_wp2_with (first | ((with_reducible refine gate_callee (f := 34) rfl ?_); refine goesL_ (some 78) rfl rfl Tryd.func34 (by kernel_rfl) rfl #[.pointer (some ⟨g, 0, none⟩), .int .i64 ji75] rfl (by (try simp only [List.map_toArray, List.map_cons, List.map_nil]); first | done | (simp only [hji75]; rfl) | rfl | (simp only [List.length_drop, List.length_take]; rfl)) ?_; (with_reducible refine (spec_l20Rd_pick.calls k g s0_0 t369 ji75 t389 t390 w0 _ ?side1 ?side2 A76.out).mono ?_); (case side1 => exact zcj_8); (case side2 => exact zcj_11); rintro e w83 ⟨rfl, hi, hb, hk⟩; refine ⟨_, rfl, ?_⟩; refine zcj_f13 ?_; clear BK360; clear BK361; clear HO364; clear BK370; clear HK; clear HB; clear HI0; intro BK360 BK361 HO364 BK370 HK HB HI0; (try clear hb); (try clear hb2); (try clear hk); (try clear hi); have hnb84 := NB370_361.out; have hnc84 := NB361_370.out; have hnb85 := NB370_0.out; have hnc85 := NB0_370.out; have hcz86_0 : w83.cell? ⟨gb370, 0, none⟩ = some (.int .i64 (wrap64 ((rd y362 t365) + (wrap64 ((wrap64 (Int.tdiv t368 59)) * 5))))) := (blk_cell BK370.out 0).trans rfl; have hcz86_1 : w83.cell? ⟨gb370, 1, none⟩ = some (.int .i64 0) := (blk_cell BK370.out 1).trans rfl; have hcz86_2 : w83.cell? ⟨gb370, 2, none⟩ = some (.int .i64 0) := (blk_cell BK370.out 2).trans rfl; have hcz86_3 : w83.cell? ⟨gb370, 3, none⟩ = some (.string (⟨#[]⟩ : ByteArray)) := (blk_cell BK370.out 3).trans rfl; have hfz86_0 := blk_frozen BK370.out 0; have hfz86_1 := blk_frozen BK370.out 1; have hfz86_2 := blk_frozen BK370.out 2; have hfz86_3 := blk_frozen BK370.out 3))
 have n0_ : Aside0 (Kd.R (Kd.int .i64) 3 (w83.setCell ⟨gb370, 1, none⟩ (.int .i64 t389)) w.heap.size (fun _ => True) (.slice (some adz_v363) y362.length co20) y362) := ⟨by (with_reducible repeat (first | apply Kd.R_alloc | apply Kd.R_drewN | apply Kd.R_drew)); exact Kd.R_mono (Kd.R_far (p := ⟨gb370, 1, none⟩) (Kd.R_types HO364.out BK370.out (by decide)) (fun _ hk => hk.2) (.int .i64 t389)) (fun _ hk => trivial)⟩
 have n1_ : Aside0 ((w83.setCell ⟨gb370, 1, none⟩ (.int .i64 t389)).heap[gb360]? = some (.cells #[.int .i64 a1_0, .slice A1_1 l1_1.length c1_1, .slice A1_2 l1_2.length c1_2] 50 (0, 0))) := ⟨zcj_62⟩
 have n2_ : Aside0 ((w83.setCell ⟨gb370, 1, none⟩ (.int .i64 t389)).heap[gb361]? = some (.cells #[.int .i64 0, .int .i64 0, .int .i64 0, .string (⟨#[]⟩ : ByteArray)] 30 (0, 0))) := ⟨zcj_63⟩
 have n3_ : Aside0 ((w83.setCell ⟨gb370, 1, none⟩ (.int .i64 t389)).heap[gb370]? = some (.cells #[.int .i64 (wrap64 ((rd y362 t365) + (wrap64 ((wrap64 (Int.tdiv t368 59)) * 5)))), .int .i64 t389, .int .i64 0, .string (⟨#[]⟩ : ByteArray)] 30 (0, 0))) := ⟨zcj_115⟩
 have n4_ : Aside0 (IsS63 w0 (w83.setCell ⟨gb370, 1, none⟩ (.int .i64 t389)) g s0_0 t390) := ⟨zcj_8⟩
 have n5_ : Aside0 (KeepBut w (w83.setCell ⟨gb370, 1, none⟩ (.int .i64 t389)) g none) := ⟨zcj_10⟩
 have n6_ : Aside0 (Below w0.heap.size w0 (w83.setCell ⟨gb370, 1, none⟩ (.int .i64 t389))) := ⟨zcj_11⟩
 (try clear HO364)
 (try clear BK360)
 (try clear BK361)
 (try clear BK370)
 (try clear HI0)
 (try clear HK)
 (try clear HB)
 generalize (w83.setCell ⟨gb370, 1, none⟩ (.int .i64 t389)) = w87 at n0_ n1_ n2_ n3_ n4_ n5_ n6_ ⊢
 have HO364 := n0_
 have BK360 := n1_
 have BK361 := n2_
 have BK370 := n3_
 have HI0 := n4_
 have HK := n5_
 have HB := n6_
 clear n0_ n1_ n2_ n3_ n4_ n5_ n6_
 refine zcj_f6 ?_
 clear HO364
 clear BK360
 clear BK361
 clear BK370
 clear HI0
 clear HK
 clear HB
 intro HO364 BK360 BK361 BK370 HI0 HK HB
 refine start_ (n := 11) (S := fun w' => True) (ds := []) #[false, false, false, false, false, false, false, false, false, false, false] (by kernel_rfl) rfl rfl trivial (fun hHeld => ?_); refine with_tabW spec_l20Deed.tab14 spec_l20Deed.bits14 (fun HT_ HW_ => ?_)
 generalize w87.drew = w88 at HO364 BK360 BK361 BK370 HI0 HK HB hHeld ⊢
 refine pure_ (i := 0) (N := some 80) (v := ?_) (a' := ?_) #[true, false, false, false, false, false, false, false, false, false, false] rfl rfl (any_of HT_.out (by kernel_rfl)) (fun _ _ _ h => h) (Or.inl ⟨by rfl, ?_⟩) ?_ ?_
 rotate_left
 {
 intro w'
 go_simp
 with_reducible rfl
 }
 rotate_left
 {exact zcj_1}
 refine pure_ (i := 1) (N := some 81) (v := ?_) (a' := ?_) #[true, true, false, false, false, false, false, false, false, false, false] rfl rfl (any_of HT_.out (by kernel_rfl)) (fun _ _ _ h => h) (Or.inl ⟨by rfl, ?_⟩) ?_ ?_
 rotate_left
 {
 intro w'
 go_simp
 with_reducible rfl
 }
 rotate_left
 {exact zcj_1}
 refine pure_ (i := 2) (N := some 82) (v := ?_) (a' := ?_) #[true, true, true, false, false, false, false, false, false, false, false] rfl rfl (any_of HT_.out (by kernel_rfl)) (fun _ _ _ h => h) (Or.inl ⟨by rfl, ?_⟩) ?_ ?_
 rotate_left
 {
 intro w'
 go_simp
 with_reducible rfl
 }
 rotate_left
 {exact zcj_1}
 refine pure_ (i := 4) (N := some 84) (v := ?_) (a' := ?_) #[true, true, true, false, true, false, false, false, false, false, false] rfl rfl (any_of HT_.out (by kernel_rfl)) (fun _ _ _ h => h) (Or.inl ⟨by rfl, ?_⟩) ?_ ?_
 rotate_left
 {
 intro w'
 go_simp
 with_reducible rfl
 }
 rotate_left
 {exact zcj_1}
 refine pure_ (i := 5) (N := some 85) (v := ?_) (a' := ?_) #[true, true, true, false, true, true, false, false, false, false, false] rfl rfl (any_of HT_.out (by kernel_rfl)) (fun _ _ _ h => h) (Or.inl ⟨by rfl, ?_⟩) ?_ ?_
 rotate_left
 {
 intro w'
 go_simp
 with_reducible rfl
 }
 rotate_left
 {exact zcj_1}
 refine pure_ (i := 6) (N := some 86) (v := ?_) (a' := ?_) #[true, true, true, false, true, true, true, false, false, false, false] rfl rfl (any_of HT_.out (by kernel_rfl)) (fun _ _ _ h => h) (Or.inl ⟨by rfl, ?_⟩) ?_ ?_
 rotate_left
 {
 intro w'
 go_simp
 with_reducible rfl
 }
 rotate_left
 {exact zcj_1}
 refine one_ (i := 3) (N := some 83) #[true, true, true, true, true, true, true, false, false, false, false] rfl rfl (one_of HT_.out (by kernel_rfl)) (by decide) (fun K hK => ?_)
 refine goes_ Tryd.func34 (by kernel_rfl) rfl #[.pointer (some ⟨g, 0, none⟩), .int .i64 (wrap64 (2 ^ (ji8).toNat))] (by rfl) rfl rfl zcj_86 ?_
 with_reducible refine (spec_l20Rd_pick.calls k g s0_0 t390 (wrap64 (2 ^ (ji8).toNat)) t391 t392 w0 _ ?side1 ?side2 A77.out).mono ?_
 (case side1 => exact zcj_8)
 (case side2 => exact zcj_11)
 rintro e w89 ⟨rfl, hi, hb, hk⟩
 refine ⟨_, rfl, ?_⟩
 have n0_ := Aside0.mk (KeepBut.blk hk (g' := gb360) (o := .cells #[.int .i64 a1_0, .slice A1_1 l1_1.length c1_1, .slice A1_2 l1_2.length c1_2] 50 (0, 0)) zcj_6 NB360_0.out (by simp))
 have n1_ := Aside0.mk (KeepBut.blk hk (g' := gb361) (o := .cells #[.int .i64 0, .int .i64 0, .int .i64 0, .string (⟨#[]⟩ : ByteArray)] 30 (0, 0)) zcj_7 NB361_0.out (by simp))
 have n2_ := Aside0.mk (Kd.R_mono (Kd.R_keep (IsS63.apart (show IsS63 w0 _ g s0_0 t390 from by repeat (first | (with_reducible first | exact HI0.out | apply IsS63.alloc | apply IsS63.drewN | apply IsS63.drew | apply IsS63.set_1 | refine IsS63.far ?_ NB0_360.out _ | refine IsS63.far ?_ NB0_361.out _ | refine IsS63.far ?_ NB0_370.out _) | exact HI0.out)) zcj_16 (by decide)) hk (fun _ h => h.2)) (fun _ h => h.1))
 have n3_ := Aside0.mk (KeepBut.blk hk (g' := gb370) (o := .cells #[.int .i64 (wrap64 ((rd y362 t365) + (wrap64 ((wrap64 (Int.tdiv t368 59)) * 5)))), .int .i64 t389, .int .i64 0, .string (⟨#[]⟩ : ByteArray)] 30 (0, 0)) zcj_14 NB370_0.out (by simp))
 have n4_ := Aside0.mk (KeepBut.trans zcj_10 hk (.inl rfl))
 have n5_ := Aside0.mk (hb)
 have n6_ := Aside0.mk (hi)
 clear BK360
 clear BK361
 clear HO364
 clear BK370
 clear HK
 clear HB
 clear HI0
 have BK360 := n0_
 have BK361 := n1_
 have HO364 := n2_
 have BK370 := n3_
 have HK := n4_
 have HB := n5_
 have HI0 := n6_
 clear n0_ n1_ n2_ n3_ n4_ n5_ n6_
 (try clear hb)
 (try clear hb2)
 (try clear hk)
 (try clear hi)
 refine hK.out _ _ trivial (fun hHeld => ?_)
 clear hK K
 refine norm_ (a' := ?_) ?_ ?_
 rotate_left
 {exact zcj_130}
 refine one_ (i := 7) (N := some 87) #[true, true, true, true, true, true, true, true, false, false, false] rfl rfl (one_of HT_.out (by kernel_rfl)) (by decide) (fun K hK => ?_)
 refine goes_ Tryd.func34 (by kernel_rfl) rfl #[.pointer (some ⟨g, 0, none⟩), .int .i64 (wrap64 (2 ^ (ji8).toNat))] (by rfl) rfl rfl zcj_86 ?_
 with_reducible refine (spec_l20Rd_pick.calls k g s0_0 t392 (wrap64 (2 ^ (ji8).toNat)) t393 t394 w0 _ ?side1 ?side2 A78.out).mono ?_
 (case side1 => exact zcj_8)
 (case side2 => exact zcj_11)
 rintro e w90 ⟨rfl, hi, hb, hk⟩
 refine ⟨_, rfl, ?_⟩
 have n0_ := Aside0.mk (KeepBut.blk hk (g' := gb360) (o := .cells #[.int .i64 a1_0, .slice A1_1 l1_1.length c1_1, .slice A1_2 l1_2.length c1_2] 50 (0, 0)) zcj_6 NB360_0.out (by simp))
 have n1_ := Aside0.mk (KeepBut.blk hk (g' := gb361) (o := .cells #[.int .i64 0, .int .i64 0, .int .i64 0, .string (⟨#[]⟩ : ByteArray)] 30 (0, 0)) zcj_7 NB361_0.out (by simp))
 have n2_ := Aside0.mk (Kd.R_mono (Kd.R_keep (IsS63.apart (show IsS63 w0 _ g s0_0 t392 from by repeat (first | (with_reducible first | exact HI0.out | apply IsS63.alloc | apply IsS63.drewN | apply IsS63.drew | apply IsS63.set_1 | refine IsS63.far ?_ NB0_360.out _ | refine IsS63.far ?_ NB0_361.out _ | refine IsS63.far ?_ NB0_370.out _) | exact HI0.out)) zcj_16 (by decide)) hk (fun _ h => h.2)) (fun _ h => h.1))
 have n3_ := Aside0.mk (KeepBut.blk hk (g' := gb370) (o := .cells #[.int .i64 (wrap64 ((rd y362 t365) + (wrap64 ((wrap64 (Int.tdiv t368 59)) * 5)))), .int .i64 t389, .int .i64 0, .string (⟨#[]⟩ : ByteArray)] 30 (0, 0)) zcj_14 NB370_0.out (by simp))
 have n4_ := Aside0.mk (KeepBut.trans zcj_10 hk (.inl rfl))
 have n5_ := Aside0.mk (hb)
 have n6_ := Aside0.mk (hi)
 clear BK360
 clear BK361
 clear HO364
 clear BK370
 clear HK
 clear HB
 clear HI0
 have BK360 := n0_
 have BK361 := n1_
 have HO364 := n2_
 have BK370 := n3_
 have HK := n4_
 have HB := n5_
 have HI0 := n6_
 clear n0_ n1_ n2_ n3_ n4_ n5_ n6_
 (try clear hb)
 (try clear hb2)
 (try clear hk)
 (try clear hi)
 refine hK.out _ _ trivial (fun hHeld => ?_)
 clear hK K
 refine norm_ (a' := ?_) ?_ ?_
 rotate_left
 {show Act.put _ (some 87) _ = _; simp only [Act.put, List.setIfInBounds_toArray, List.set_cons_zero, List.set_cons_succ, i64_w, i32_w]; rfl}
 refine pure_ (i := 8) (N := some 88) (v := ?_) (a' := ?_) #[true, true, true, true, true, true, true, true, true, false, false] rfl rfl (any_of HT_.out (by kernel_rfl)) (fun _ _ _ h => h) (Or.inl ⟨by rfl, ?_⟩) ?_ ?_
 rotate_left
 {
 intro w'
 go_simp
 with_reducible rfl
 }
 rotate_left
 {exact zcj_1}
 refine pure_ (i := 9) (N := some 89) (v := ?_) (a' := ?_) #[true, true, true, true, true, true, true, true, true, true, false] rfl rfl (any_of HT_.out (by kernel_rfl)) (fun _ _ _ h => h) (Or.inl ⟨by rfl, ?_⟩) ?_ ?_
 rotate_left
 {
 intro w'
 go_simp
 with_reducible rfl
 }
 rotate_left
 {exact zcj_1}
 refine one_ (i := 10) (N := none) #[true, true, true, true, true, true, true, true, true, true, true] rfl rfl (one_of HT_.out (by kernel_rfl)) (by decide) (fun K hK => ?_)
 have hs91 : w90.cell? ⟨gb370, 2, none⟩ = some (.int .i64 0) := (blk_cell BK370.out 2).trans rfl
 have hfs91 := blk_frozen BK370.out 2
 have hns91_0 := NB360_370.out
 have hns91_1 := NB361_370.out
 have hms91_0 := NB370_360.out
 have hms91_1 := NB370_361.out
 refine skip_ (w1 := ?_) (by rfl) rfl ?_ ?_
 rotate_left
 {go_simp; rfl}
 refine hK.out _ _ trivial (fun hHeld => ?_)
 clear hK K
 refine done_ (done_of HT_.out (by kernel_rfl)) ?_
 try go_wp2
 go_meet
 case rel => exact ⟨_, (t394), (t389), (Go.bits .or .i64 t391 t393), ((⟨#[]⟩ : ByteArray)), H', ⟨zcj_38⟩, ⟨zcj_62⟩, ⟨zcj_63⟩, ⟨by (with_reducible repeat (first | refine blk_drewN ?_ _ | refine blk_drew ?_ | refine blk_alloc ?_ _)); refine blk_put (cs := #[.int .i64 (wrap64 ((rd y362 t365) + (wrap64 ((wrap64 (Int.tdiv t368 59)) * 5)))), .int .i64 t389, .int .i64 0, .string (⟨#[]⟩ : ByteArray)]) ?_ 2 _ rfl; (with_reducible repeat (first | refine blk_drewN ?_ _ | refine blk_drew ?_ | refine blk_alloc ?_ _)); exact BK370.out⟩, ⟨zcj_8⟩, ⟨zcj_10⟩, ⟨zcj_11⟩⟩
 }
 {
 rw [if_neg c74] at H
 have c74b0 : ((wrap64 ((rd y362 t365) + (wrap64 ((wrap64 (Int.tdiv t368 59)) * 5)))) == 3) = false := beq_eq_false_iff_ne.mpr c74
 have c74b1 : ((wrap64 ((rd y362 t365) + (wrap64 ((wrap64 (Int.tdiv t368 59)) * 5)))) != 3) = true := bne_iff_ne.mpr c74
 have H' := Aside0.mk H
 clear H
 go_wp2
 go_meet
 case rel => exact ⟨_, (t369), (0), (0), ((⟨#[]⟩ : ByteArray)), H', ⟨zcj_38⟩, ⟨zcj_116⟩, ⟨zcj_117⟩, ⟨zcj_118⟩, ⟨zcj_8⟩, ⟨zcj_10⟩, ⟨zcj_11⟩⟩
 }
 }
 }
 }
 )
 case rest =>(
 clear HC9
 obtain ⟨kq, x1001_8, x371001_8, x371002_8, x371003_8, HA, HJ8, BK360, BK361, BK370, HI0, HK, HB⟩ := hcut
 cases kq with
 | zero => exact absurd HA.out (by simp [spec_l20Deed.j0])
 | succ kj8 =>(
 have H := HA.out
 clear HA
 simp only [spec_l20Deed.j0] at H
 replace H := Option.bind_eq_some_iff.mp H
 obtain ⟨⟨t395, t396⟩, A920, H⟩ := H
 try dsimp only at H
 have A92 := Aside0.mk A920
 clear A920
 by_cases c93 : t395 = true
 {
 subst c93
 rw [if_pos rfl] at H
 replace H := Option.bind_eq_some_iff.mp H
 obtain ⟨⟨t397, t398⟩, A940, H⟩ := H
 try dsimp only at H
 have A94 := Aside0.mk A940
 clear A940
 by_cases c95 : t397 = 0
 {
 rw [if_pos c95] at H
 have c95b0 : (t397 == 0) = true := beq_iff_eq.mpr c95
 have c95b1 : (t397 != 0) = false := bne_eq_false_iff_eq.mpr c95
 clear c95
 obtain ⟨y399, hy399⟩ : ∃ y_ : List Int, y_ = (([(-1), 100] : List Int)) := ⟨_, rfl⟩
 replace H : ((spec_l20Rd_pick.f kj8 s0_0 t398 2).bind fun bt402 => (if 0 ≤ bt402.1 then (if bt402.1 < (y399.length : Int) then (some ((wrap64 ((rd y362 t365) + (wrap64 ((wrap64 (Int.tdiv t368 59)) * 5)))), rd y399 bt402.1, x371002_8, x371003_8, bt402.2)) else (none)) else (none))) = some (r1, r2, r3, r4, r5) := by first | (rw [hy399]; with_reducible exact H) | (have H2_ := (Option.bind_some _ _).symm.trans H; rw [hy399]; with_reducible exact H2_) | (have H2_ := (Option.bind_some _ _).symm.trans H; with_reducible exact H2_) | with_reducible exact H | (rw [hy399]; exact H) | exact H
 have Ny399 := Aside0.mk hy399
 clear hy399
 replace H := Option.bind_eq_some_iff.mp H
 obtain ⟨⟨t402, t403⟩, A960, H⟩ := H
 try dsimp only at H
 have A96 := Aside0.mk A960
 clear A960
 by_cases c97 : 0 ≤ t402
 {
 rw [if_pos c97] at H
 have c97b0 : decide (0 ≤ t402) = true := decide_eq_true c97
 clear c97
 by_cases c98 : t402 < (y399.length : Int)
 {
 rw [if_pos c98] at H
 have c98b0 : decide (t402 < (y399.length : Int)) = true := decide_eq_true c98
 clear c98
 simp only [Option.some.injEq, Prod.mk.injEq] at H
 obtain ⟨rfl, rfl, rfl, rfl, rfl⟩ := H
 go_wp2_with (first | ((with_reducible refine gate_callee (f := 39) rfl ?_); refine goesL_ (some 91) rfl rfl Tryd.func39 (by kernel_rfl) rfl #[.pointer (some ⟨g, 0, none⟩), .int .i64 40] rfl zcj_3 ?_; (with_reducible refine (spec_l20Rd_odd.calls kj8 g s0_0 x1001_8 40 true t396 w0 _ ?side1 ?side2 A92.out).mono ?_); (case side1 => exact zcj_8); (case side2 => exact zcj_11); rintro e w99 ⟨rfl, hi, hb, hk⟩; refine ⟨_, rfl, ?_⟩; refine zcj_f2 ?_; clear BK360; clear BK361; clear BK370; clear HK; clear HB; clear HI0; intro BK360 BK361 BK370 HK HB HI0; (try clear hb); (try clear hb2); (try clear hk); (try clear hi)) | ((with_reducible refine gate_callee (f := 34) rfl ?_); refine goesL_ (some 93) rfl rfl Tryd.func34 (by kernel_rfl) rfl #[.pointer (some ⟨g, 0, none⟩), .int .i64 3] rfl zcj_3 ?_; (with_reducible refine (spec_l20Rd_pick.calls kj8 g s0_0 t396 3 t397 t398 w0 _ ?side1 ?side2 A94.out).mono ?_); (case side1 => exact zcj_8); (case side2 => exact zcj_11); rintro e w100 ⟨rfl, hi, hb, hk⟩; refine ⟨_, rfl, ?_⟩; refine zcj_f2 ?_; clear BK360; clear BK361; clear BK370; clear HK; clear HB; clear HI0; intro BK360 BK361 BK370 HK HB HI0; (try clear hb); (try clear hb2); (try clear hk); (try clear hi)) | ((with_reducible refine gate_dst (N := 97) rfl ?_); refine Kd.R_lit (Kd.int .i64) _ 3 ?hg (N := 97) ?hd (xs := ([(-1), 100] : List Int)) (inner := [.int .i64 (-1), .int .i64 100]) (ok := fun _ => True) (okp := fun _ => True) ?hr ?hp (fun _ hk => hk) trivial (Below.refl _ _) (Nat.le_refl _) (by simp) ?_; (case hd => rfl); (case hg => rfl); (case hr => exact zcj_12); (case hp => exact (Reps.one (show Kd.M (Kd.int .i64) _ _ _ (-1) [.int .i64 (-1)] from rfl) (Reps.one (show Kd.M (Kd.int .i64) _ _ _ 100 [.int .i64 100] from rfl) (Reps.none _ _)))); intro v400 w101 ho102 hb hg_ hnew_; clear hg_ hnew_; (first | rw [← Ny399.out] at ho102 | (simp only [Int.reduceToNat] at ho102; rw [← Ny399.out] at ho102)); have n0_ := Aside0.mk (Kd.R_lower ho102 (keep_size (w := w) (g := g) (row := none) zcj_10)); have n1_ := Aside0.mk (blk_below (g := gb360) (o := .cells #[.int .i64 a1_0, .slice A1_1 l1_1.length c1_1, .slice A1_2 l1_2.length c1_2] 50 (0, 0)) zcj_6 hb); have n2_ := Aside0.mk (blk_below (g := gb361) (o := .cells #[.int .i64 0, .int .i64 0, .int .i64 0, .string (⟨#[]⟩ : ByteArray)] 30 (0, 0)) zcj_7 hb); have n3_ := Aside0.mk (blk_below (g := gb370) (o := .cells #[.int .i64 (wrap64 ((rd y362 t365) + (wrap64 ((wrap64 (Int.tdiv t368 59)) * 5)))), .int .i64 x371001_8, .int .i64 x371002_8, .string x371003_8] 30 (0, 0)) zcj_14 hb); have n4_ := Aside0.mk (IsS63.below zcj_8 hb); have n5_ := Aside0.mk (KeepBut.trans zcj_10 (KeepBut.of_below hb g none) (.inl rfl)); have n6_ := Aside0.mk (below_step zcj_11 hb); clear BK360; clear BK361; clear BK370; clear HI0; clear HK; clear HB; have HO401 := n0_; have BK360 := n1_; have BK361 := n2_; have BK370 := n3_; have HI0 := n4_; have HK := n5_; have HB := n6_; clear n0_ n1_ n2_ n3_ n4_ n5_ n6_; clear hb ho102) | ((with_reducible refine gate_callee (f := 34) rfl ?_); refine goesL_ (some 99) rfl rfl Tryd.func34 (by kernel_rfl) rfl #[.pointer (some ⟨g, 0, none⟩), .int .i64 2] rfl zcj_3 ?_; (with_reducible refine (spec_l20Rd_pick.calls kj8 g s0_0 t398 2 t402 t403 w0 _ ?side1 ?side2 A96.out).mono ?_); (case side1 => exact zcj_8); (case side2 => exact zcj_11); rintro e w103 ⟨rfl, hi, hb, hk⟩; refine ⟨_, rfl, ?_⟩; have n0_ := Aside0.mk (KeepBut.blk hk (g' := gb360) (o := .cells #[.int .i64 a1_0, .slice A1_1 l1_1.length c1_1, .slice A1_2 l1_2.length c1_2] 50 (0, 0)) zcj_6 NB360_0.out (by simp)); have n1_ := Aside0.mk (KeepBut.blk hk (g' := gb361) (o := .cells #[.int .i64 0, .int .i64 0, .int .i64 0, .string (⟨#[]⟩ : ByteArray)] 30 (0, 0)) zcj_7 NB361_0.out (by simp)); have n2_ := Aside0.mk (KeepBut.blk hk (g' := gb370) (o := .cells #[.int .i64 (wrap64 ((rd y362 t365) + (wrap64 ((wrap64 (Int.tdiv t368 59)) * 5)))), .int .i64 x371001_8, .int .i64 x371002_8, .string x371003_8] 30 (0, 0)) zcj_14 NB370_0.out (by simp)); have n3_ := Aside0.mk (Kd.R_mono (Kd.R_keep (IsS63.apart (show IsS63 w0 _ g s0_0 t398 from by repeat (first | (with_reducible first | exact HI0.out | apply IsS63.alloc | apply IsS63.drewN | apply IsS63.drew | apply IsS63.set_1 | refine IsS63.far ?_ NB0_360.out _ | refine IsS63.far ?_ NB0_361.out _ | refine IsS63.far ?_ NB0_370.out _) | exact HI0.out)) (by (with_reducible repeat (first | apply Kd.R_alloc | apply Kd.R_drewN | apply Kd.R_drew)); exact HO401.out) (by decide)) hk (fun _ h => h.2)) (fun _ h => h.1)); have n4_ := Aside0.mk (KeepBut.trans zcj_10 hk (.inl rfl)); have n5_ := Aside0.mk (hb); have n6_ := Aside0.mk (hi); clear BK360; clear BK361; clear BK370; clear HO401; clear HK; clear HB; clear HI0; have BK360 := n0_; have BK361 := n1_; have BK370 := n2_; have HO401 := n3_; have HK := n4_; have HB := n5_; have HI0 := n6_; clear n0_ n1_ n2_ n3_ n4_ n5_ n6_; (try clear hb); (try clear hb2); (try clear hk); (try clear hi); obtain ⟨Ao104, co104, eo104⟩ := Kd.R_slice HO401.out; subst eo104; have p404 : 0 ≤ (t402 : Int) := of_decide_eq_true zcj_2; have q404 : t402 < (y399.length : Int) := of_decide_eq_true zcj_2; obtain ⟨ad404, e404, hx404_0⟩ := Kd.at_int (Kd.R_reads' HO401.out).2.2 t402 p404 q404; cases e404; replace p404 := eq_true p404; replace q404 := eq_true q404; have hnb105 := NB370_360.out; have hnc105 := NB360_370.out; have hnb106 := NB370_361.out; have hnc106 := NB361_370.out; have hnb107 := NB370_0.out; have hnc107 := NB0_370.out; have hcz108_0 : w103.cell? ⟨gb370, 0, none⟩ = some (.int .i64 (wrap64 ((rd y362 t365) + (wrap64 ((wrap64 (Int.tdiv t368 59)) * 5))))) := (blk_cell BK370.out 0).trans rfl; have hcz108_1 : w103.cell? ⟨gb370, 1, none⟩ = some (.int .i64 x371001_8) := (blk_cell BK370.out 1).trans rfl; have hcz108_2 : w103.cell? ⟨gb370, 2, none⟩ = some (.int .i64 x371002_8) := (blk_cell BK370.out 2).trans rfl; have hcz108_3 : w103.cell? ⟨gb370, 3, none⟩ = some (.string x371003_8) := (blk_cell BK370.out 3).trans rfl; have hfz108_0 := blk_frozen BK370.out 0; have hfz108_1 := blk_frozen BK370.out 1; have hfz108_2 := blk_frozen BK370.out 2; have hfz108_3 := blk_frozen BK370.out 3; have hnb109 := NB361_360.out; have hnc109 := NB360_361.out; have hnb110 := NB361_0.out; have hnc110 := NB0_361.out; have hcz111_0 : w103.cell? ⟨gb361, 0, none⟩ = some (.int .i64 0) := (blk_cell BK361.out 0).trans rfl; have hcz111_1 : w103.cell? ⟨gb361, 1, none⟩ = some (.int .i64 0) := (blk_cell BK361.out 1).trans rfl; have hcz111_2 : w103.cell? ⟨gb361, 2, none⟩ = some (.int .i64 0) := (blk_cell BK361.out 2).trans rfl; have hcz111_3 : w103.cell? ⟨gb361, 3, none⟩ = some (.string (⟨#[]⟩ : ByteArray)) := (blk_cell BK361.out 3).trans rfl; have hfz111_0 := blk_frozen BK361.out 0; have hfz111_1 := blk_frozen BK361.out 1; have hfz111_2 := blk_frozen BK361.out 2; have hfz111_3 := blk_frozen BK361.out 3))
 refine bodyPost_ret (results_cell_row rfl _ _ gb361 30 #[.int .i64 (wrap64 ((rd y362 t365) + (wrap64 ((wrap64 (Int.tdiv t368 59)) * 5)))), .int .i64 (rd y399 t402), .int .i64 x371002_8, .string x371003_8] (0, 0) _ rfl (by (with_reducible repeat (first | refine blk_drewN ?_ _ | refine blk_drew ?_ | refine blk_alloc ?_ _)); refine blk_put (cs := #[.int .i64 (wrap64 ((rd y362 t365) + (wrap64 ((wrap64 (Int.tdiv t368 59)) * 5)))), .int .i64 (rd y399 t402), .int .i64 x371002_8, .string (⟨#[]⟩ : ByteArray)]) ?_ 3 _ rfl; (with_reducible repeat (first | refine blk_drewN ?_ _ | refine blk_drew ?_ | refine blk_alloc ?_ _)); refine blk_put (cs := #[.int .i64 (wrap64 ((rd y362 t365) + (wrap64 ((wrap64 (Int.tdiv t368 59)) * 5)))), .int .i64 (rd y399 t402), .int .i64 0, .string (⟨#[]⟩ : ByteArray)]) ?_ 2 _ rfl; (with_reducible repeat (first | refine blk_drewN ?_ _ | refine blk_drew ?_ | refine blk_alloc ?_ _)); refine blk_put (cs := #[.int .i64 (wrap64 ((rd y362 t365) + (wrap64 ((wrap64 (Int.tdiv t368 59)) * 5)))), .int .i64 0, .int .i64 0, .string (⟨#[]⟩ : ByteArray)]) ?_ 1 _ rfl; (with_reducible repeat (first | refine blk_drewN ?_ _ | refine blk_drew ?_ | refine blk_alloc ?_ _)); refine blk_put (cs := #[.int .i64 0, .int .i64 0, .int .i64 0, .string (⟨#[]⟩ : ByteArray)]) ?_ 0 _ rfl; (with_reducible repeat (first | refine blk_drewN ?_ _ | refine blk_drew ?_ | refine blk_alloc ?_ _)); refine blk_far ?_ NB361_370.out _; (with_reducible repeat (first | refine blk_drewN ?_ _ | refine blk_drew ?_ | refine blk_alloc ?_ _)); exact BK361.out) Tryd.underlying30 rfl (by kernel_rfl)) rfl ?_
 exact ⟨zcj_102, zcj_8, zcj_11, zcj_10⟩
 }
 {
 rw [if_neg c98] at H
 exact absurd H (by simp)
 }
 }
 {
 rw [if_neg c97] at H
 exact absurd H (by simp)
 }
 }
 {
 rw [if_neg c95] at H
 have c95b0 : (t397 == 0) = false := beq_eq_false_iff_ne.mpr c95
 have c95b1 : (t397 != 0) = true := bne_iff_ne.mpr c95
 by_cases c112 : t397 = 1
 {
 rw [if_pos c112] at H
 have c112b0 : (t397 == 1) = true := beq_iff_eq.mpr c112
 have c112b1 : (t397 != 1) = false := bne_eq_false_iff_eq.mpr c112
 clear c112
 obtain ⟨y405, hy405⟩ : ∃ y_ : List ByteArray, y_ = (([(⟨#[40, 65, 49, 41]⟩ : ByteArray), (⟨#[97, 32, 98]⟩ : ByteArray), (⟨#[]⟩ : ByteArray)] : List ByteArray)) := ⟨_, rfl⟩
 replace H : ((spec_l20Rd_pick.f kj8 s0_0 t398 3).bind fun bt408 => (if 0 ≤ bt408.1 then (if bt408.1 < (y405.length : Int) then (some ((wrap64 ((rd y362 t365) + (wrap64 ((wrap64 (Int.tdiv t368 59)) * 5)))), x371001_8, x371002_8, rdOf ByteArray.empty y405 bt408.1, bt408.2)) else (none)) else (none))) = some (r1, r2, r3, r4, r5) := by first | (rw [hy405]; with_reducible exact H) | (have H2_ := (Option.bind_some _ _).symm.trans H; rw [hy405]; with_reducible exact H2_) | (have H2_ := (Option.bind_some _ _).symm.trans H; with_reducible exact H2_) | with_reducible exact H | (rw [hy405]; exact H) | exact H
 have Ny405 := Aside0.mk hy405
 clear hy405
 replace H := Option.bind_eq_some_iff.mp H
 obtain ⟨⟨t408, t409⟩, A1130, H⟩ := H
 try dsimp only at H
 have A113 := Aside0.mk A1130
 clear A1130
 by_cases c114 : 0 ≤ t408
 {
 rw [if_pos c114] at H
 have c114b0 : decide (0 ≤ t408) = true := decide_eq_true c114
 clear c114
 by_cases c115 : t408 < (y405.length : Int)
 {
 rw [if_pos c115] at H
 have c115b0 : decide (t408 < (y405.length : Int)) = true := decide_eq_true c115
 clear c115
 simp only [Option.some.injEq, Prod.mk.injEq] at H
 obtain ⟨rfl, rfl, rfl, rfl, rfl⟩ := H
 go_wp2_with (first | ((with_reducible refine gate_callee (f := 39) rfl ?_); refine goesL_ (some 91) rfl rfl Tryd.func39 (by kernel_rfl) rfl #[.pointer (some ⟨g, 0, none⟩), .int .i64 40] rfl zcj_3 ?_; (with_reducible refine (spec_l20Rd_odd.calls kj8 g s0_0 x1001_8 40 true t396 w0 _ ?side1 ?side2 A92.out).mono ?_); (case side1 => exact zcj_8); (case side2 => exact zcj_11); rintro e w116 ⟨rfl, hi, hb, hk⟩; refine ⟨_, rfl, ?_⟩; refine zcj_f2 ?_; clear BK360; clear BK361; clear BK370; clear HK; clear HB; clear HI0; intro BK360 BK361 BK370 HK HB HI0; (try clear hb); (try clear hb2); (try clear hk); (try clear hi)) | ((with_reducible refine gate_callee (f := 34) rfl ?_); refine goesL_ (some 93) rfl rfl Tryd.func34 (by kernel_rfl) rfl #[.pointer (some ⟨g, 0, none⟩), .int .i64 3] rfl zcj_3 ?_; (with_reducible refine (spec_l20Rd_pick.calls kj8 g s0_0 t396 3 t397 t398 w0 _ ?side1 ?side2 A94.out).mono ?_); (case side1 => exact zcj_8); (case side2 => exact zcj_11); rintro e w117 ⟨rfl, hi, hb, hk⟩; refine ⟨_, rfl, ?_⟩; refine zcj_f2 ?_; clear BK360; clear BK361; clear BK370; clear HK; clear HB; clear HI0; intro BK360 BK361 BK370 HK HB HI0; (try clear hb); (try clear hb2); (try clear hk); (try clear hi)) | ((with_reducible refine gate_dst (N := 105) rfl ?_); refine Kd.R_lit Kd.string _ 9 ?hg (N := 105) ?hd (xs := ([(⟨#[40, 65, 49, 41]⟩ : ByteArray), (⟨#[97, 32, 98]⟩ : ByteArray), (⟨#[]⟩ : ByteArray)] : List ByteArray)) (inner := [.string (⟨#[40, 65, 49, 41]⟩ : ByteArray), .string (⟨#[97, 32, 98]⟩ : ByteArray), .string (⟨#[]⟩ : ByteArray)]) (ok := fun _ => True) (okp := fun _ => True) ?hr ?hp (fun _ hk => hk) trivial (Below.refl _ _) (Nat.le_refl _) (by simp) ?_; (case hd => rfl); (case hg => rfl); (case hr => exact zcj_12); (case hp => exact (Reps.one (show Kd.M Kd.string _ _ _ (⟨#[40, 65, 49, 41]⟩ : ByteArray) [.string (⟨#[40, 65, 49, 41]⟩ : ByteArray)] from rfl) (Reps.one (show Kd.M Kd.string _ _ _ (⟨#[97, 32, 98]⟩ : ByteArray) [.string (⟨#[97, 32, 98]⟩ : ByteArray)] from rfl) (Reps.one (show Kd.M Kd.string _ _ _ (⟨#[]⟩ : ByteArray) [.string (⟨#[]⟩ : ByteArray)] from rfl) (Reps.none _ _))))); intro v406 w118 ho119 hb hg_ hnew_; clear hg_ hnew_; (first | rw [← Ny405.out] at ho119 | (simp only [Int.reduceToNat] at ho119; rw [← Ny405.out] at ho119)); have n0_ := Aside0.mk (Kd.R_lower ho119 (keep_size (w := w) (g := g) (row := none) zcj_10)); have n1_ := Aside0.mk (blk_below (g := gb360) (o := .cells #[.int .i64 a1_0, .slice A1_1 l1_1.length c1_1, .slice A1_2 l1_2.length c1_2] 50 (0, 0)) zcj_6 hb); have n2_ := Aside0.mk (blk_below (g := gb361) (o := .cells #[.int .i64 0, .int .i64 0, .int .i64 0, .string (⟨#[]⟩ : ByteArray)] 30 (0, 0)) zcj_7 hb); have n3_ := Aside0.mk (blk_below (g := gb370) (o := .cells #[.int .i64 (wrap64 ((rd y362 t365) + (wrap64 ((wrap64 (Int.tdiv t368 59)) * 5)))), .int .i64 x371001_8, .int .i64 x371002_8, .string x371003_8] 30 (0, 0)) zcj_14 hb); have n4_ := Aside0.mk (IsS63.below zcj_8 hb); have n5_ := Aside0.mk (KeepBut.trans zcj_10 (KeepBut.of_below hb g none) (.inl rfl)); have n6_ := Aside0.mk (below_step zcj_11 hb); clear BK360; clear BK361; clear BK370; clear HI0; clear HK; clear HB; have HO407 := n0_; have BK360 := n1_; have BK361 := n2_; have BK370 := n3_; have HI0 := n4_; have HK := n5_; have HB := n6_; clear n0_ n1_ n2_ n3_ n4_ n5_ n6_; clear hb ho119) | ((with_reducible refine gate_callee (f := 34) rfl ?_); refine goesL_ (some 107) rfl rfl Tryd.func34 (by kernel_rfl) rfl #[.pointer (some ⟨g, 0, none⟩), .int .i64 3] rfl zcj_3 ?_; (with_reducible refine (spec_l20Rd_pick.calls kj8 g s0_0 t398 3 t408 t409 w0 _ ?side1 ?side2 A113.out).mono ?_); (case side1 => exact zcj_8); (case side2 => exact zcj_11); rintro e w120 ⟨rfl, hi, hb, hk⟩; refine ⟨_, rfl, ?_⟩; have n0_ := Aside0.mk (KeepBut.blk hk (g' := gb360) (o := .cells #[.int .i64 a1_0, .slice A1_1 l1_1.length c1_1, .slice A1_2 l1_2.length c1_2] 50 (0, 0)) zcj_6 NB360_0.out (by simp)); have n1_ := Aside0.mk (KeepBut.blk hk (g' := gb361) (o := .cells #[.int .i64 0, .int .i64 0, .int .i64 0, .string (⟨#[]⟩ : ByteArray)] 30 (0, 0)) zcj_7 NB361_0.out (by simp)); have n2_ := Aside0.mk (KeepBut.blk hk (g' := gb370) (o := .cells #[.int .i64 (wrap64 ((rd y362 t365) + (wrap64 ((wrap64 (Int.tdiv t368 59)) * 5)))), .int .i64 x371001_8, .int .i64 x371002_8, .string x371003_8] 30 (0, 0)) zcj_14 NB370_0.out (by simp)); have n3_ := Aside0.mk (Kd.R_mono (Kd.R_keep (IsS63.apart (show IsS63 w0 _ g s0_0 t398 from by repeat (first | (with_reducible first | exact HI0.out | apply IsS63.alloc | apply IsS63.drewN | apply IsS63.drew | apply IsS63.set_1 | refine IsS63.far ?_ NB0_360.out _ | refine IsS63.far ?_ NB0_361.out _ | refine IsS63.far ?_ NB0_370.out _) | exact HI0.out)) (by (with_reducible repeat (first | apply Kd.R_alloc | apply Kd.R_drewN | apply Kd.R_drew)); exact HO407.out) (by decide)) hk (fun _ h => h.2)) (fun _ h => h.1)); have n4_ := Aside0.mk (KeepBut.trans zcj_10 hk (.inl rfl)); have n5_ := Aside0.mk (hb); have n6_ := Aside0.mk (hi); clear BK360; clear BK361; clear BK370; clear HO407; clear HK; clear HB; clear HI0; have BK360 := n0_; have BK361 := n1_; have BK370 := n2_; have HO407 := n3_; have HK := n4_; have HB := n5_; have HI0 := n6_; clear n0_ n1_ n2_ n3_ n4_ n5_ n6_; (try clear hb); (try clear hb2); (try clear hk); (try clear hi); obtain ⟨Ao121, co121, eo121⟩ := Kd.R_slice HO407.out; subst eo121; have p410 : 0 ≤ (t408 : Int) := of_decide_eq_true zcj_2; have q410 : t408 < (y405.length : Int) := of_decide_eq_true zcj_2; obtain ⟨ad410, e410, hx410_0⟩ := Kd.at_string (Kd.R_reads' HO407.out).2.2 t408 p410 q410; cases e410; replace p410 := eq_true p410; replace q410 := eq_true q410; have hnb122 := NB370_360.out; have hnc122 := NB360_370.out; have hnb123 := NB370_361.out; have hnc123 := NB361_370.out; have hnb124 := NB370_0.out; have hnc124 := NB0_370.out; have hcz125_0 : w120.cell? ⟨gb370, 0, none⟩ = some (.int .i64 (wrap64 ((rd y362 t365) + (wrap64 ((wrap64 (Int.tdiv t368 59)) * 5))))) := (blk_cell BK370.out 0).trans rfl; have hcz125_1 : w120.cell? ⟨gb370, 1, none⟩ = some (.int .i64 x371001_8) := (blk_cell BK370.out 1).trans rfl; have hcz125_2 : w120.cell? ⟨gb370, 2, none⟩ = some (.int .i64 x371002_8) := (blk_cell BK370.out 2).trans rfl; have hcz125_3 : w120.cell? ⟨gb370, 3, none⟩ = some (.string x371003_8) := (blk_cell BK370.out 3).trans rfl; have hfz125_0 := blk_frozen BK370.out 0; have hfz125_1 := blk_frozen BK370.out 1; have hfz125_2 := blk_frozen BK370.out 2; have hfz125_3 := blk_frozen BK370.out 3; have hnb126 := NB361_360.out; have hnc126 := NB360_361.out; have hnb127 := NB361_0.out; have hnc127 := NB0_361.out; have hcz128_0 : w120.cell? ⟨gb361, 0, none⟩ = some (.int .i64 0) := (blk_cell BK361.out 0).trans rfl; have hcz128_1 : w120.cell? ⟨gb361, 1, none⟩ = some (.int .i64 0) := (blk_cell BK361.out 1).trans rfl; have hcz128_2 : w120.cell? ⟨gb361, 2, none⟩ = some (.int .i64 0) := (blk_cell BK361.out 2).trans rfl; have hcz128_3 : w120.cell? ⟨gb361, 3, none⟩ = some (.string (⟨#[]⟩ : ByteArray)) := (blk_cell BK361.out 3).trans rfl; have hfz128_0 := blk_frozen BK361.out 0; have hfz128_1 := blk_frozen BK361.out 1; have hfz128_2 := blk_frozen BK361.out 2; have hfz128_3 := blk_frozen BK361.out 3))
 refine bodyPost_ret (results_cell_row rfl _ _ gb361 30 #[.int .i64 (wrap64 ((rd y362 t365) + (wrap64 ((wrap64 (Int.tdiv t368 59)) * 5)))), .int .i64 x371001_8, .int .i64 x371002_8, .string (rdOf ByteArray.empty y405 t408)] (0, 0) _ rfl (by (with_reducible repeat (first | refine blk_drewN ?_ _ | refine blk_drew ?_ | refine blk_alloc ?_ _)); refine blk_put (cs := #[.int .i64 (wrap64 ((rd y362 t365) + (wrap64 ((wrap64 (Int.tdiv t368 59)) * 5)))), .int .i64 x371001_8, .int .i64 x371002_8, .string (⟨#[]⟩ : ByteArray)]) ?_ 3 _ rfl; (with_reducible repeat (first | refine blk_drewN ?_ _ | refine blk_drew ?_ | refine blk_alloc ?_ _)); refine blk_put (cs := #[.int .i64 (wrap64 ((rd y362 t365) + (wrap64 ((wrap64 (Int.tdiv t368 59)) * 5)))), .int .i64 x371001_8, .int .i64 0, .string (⟨#[]⟩ : ByteArray)]) ?_ 2 _ rfl; (with_reducible repeat (first | refine blk_drewN ?_ _ | refine blk_drew ?_ | refine blk_alloc ?_ _)); refine blk_put (cs := #[.int .i64 (wrap64 ((rd y362 t365) + (wrap64 ((wrap64 (Int.tdiv t368 59)) * 5)))), .int .i64 0, .int .i64 0, .string (⟨#[]⟩ : ByteArray)]) ?_ 1 _ rfl; (with_reducible repeat (first | refine blk_drewN ?_ _ | refine blk_drew ?_ | refine blk_alloc ?_ _)); refine blk_put (cs := #[.int .i64 0, .int .i64 0, .int .i64 0, .string (⟨#[]⟩ : ByteArray)]) ?_ 0 _ rfl; (with_reducible repeat (first | refine blk_drewN ?_ _ | refine blk_drew ?_ | refine blk_alloc ?_ _)); refine blk_far ?_ NB361_370.out _; (with_reducible repeat (first | refine blk_drewN ?_ _ | refine blk_drew ?_ | refine blk_alloc ?_ _)); exact BK361.out) Tryd.underlying30 rfl (by kernel_rfl)) rfl ?_
 exact ⟨zcj_102, zcj_8, zcj_11, zcj_10⟩
 }
 {
 rw [if_neg c115] at H
 exact absurd H (by simp)
 }
 }
 {
 rw [if_neg c114] at H
 exact absurd H (by simp)
 }
 }
 {
 rw [if_neg c112] at H
 have c112b0 : (t397 == 1) = false := beq_eq_false_iff_ne.mpr c112
 have c112b1 : (t397 != 1) = true := bne_iff_ne.mpr c112
 simp only [Option.some.injEq, Prod.mk.injEq] at H
 obtain ⟨rfl, rfl, rfl, rfl, rfl⟩ := H
 go_wp2_with (first | ((with_reducible refine gate_callee (f := 39) rfl ?_); refine goesL_ (some 91) rfl rfl Tryd.func39 (by kernel_rfl) rfl #[.pointer (some ⟨g, 0, none⟩), .int .i64 40] rfl zcj_3 ?_; (with_reducible refine (spec_l20Rd_odd.calls kj8 g s0_0 x1001_8 40 true t396 w0 _ ?side1 ?side2 A92.out).mono ?_); (case side1 => exact zcj_8); (case side2 => exact zcj_11); rintro e w129 ⟨rfl, hi, hb, hk⟩; refine ⟨_, rfl, ?_⟩; refine zcj_f2 ?_; clear BK360; clear BK361; clear BK370; clear HK; clear HB; clear HI0; intro BK360 BK361 BK370 HK HB HI0; (try clear hb); (try clear hb2); (try clear hk); (try clear hi)) | ((with_reducible refine gate_callee (f := 34) rfl ?_); refine goesL_ (some 93) rfl rfl Tryd.func34 (by kernel_rfl) rfl #[.pointer (some ⟨g, 0, none⟩), .int .i64 3] rfl zcj_3 ?_; (with_reducible refine (spec_l20Rd_pick.calls kj8 g s0_0 t396 3 t397 t398 w0 _ ?side1 ?side2 A94.out).mono ?_); (case side1 => exact zcj_8); (case side2 => exact zcj_11); rintro e w130 ⟨rfl, hi, hb, hk⟩; refine ⟨_, rfl, ?_⟩; refine zcj_f2 ?_; clear BK360; clear BK361; clear BK370; clear HK; clear HB; clear HI0; intro BK360 BK361 BK370 HK HB HI0; (try clear hb); (try clear hb2); (try clear hk); (try clear hi); have hnb131 := NB370_360.out; have hnc131 := NB360_370.out; have hnb132 := NB370_361.out; have hnc132 := NB361_370.out; have hnb133 := NB370_0.out; have hnc133 := NB0_370.out; have hcz134_0 : w130.cell? ⟨gb370, 0, none⟩ = some (.int .i64 (wrap64 ((rd y362 t365) + (wrap64 ((wrap64 (Int.tdiv t368 59)) * 5))))) := (blk_cell BK370.out 0).trans rfl; have hcz134_1 : w130.cell? ⟨gb370, 1, none⟩ = some (.int .i64 x371001_8) := (blk_cell BK370.out 1).trans rfl; have hcz134_2 : w130.cell? ⟨gb370, 2, none⟩ = some (.int .i64 x371002_8) := (blk_cell BK370.out 2).trans rfl; have hcz134_3 : w130.cell? ⟨gb370, 3, none⟩ = some (.string x371003_8) := (blk_cell BK370.out 3).trans rfl; have hfz134_0 := blk_frozen BK370.out 0; have hfz134_1 := blk_frozen BK370.out 1; have hfz134_2 := blk_frozen BK370.out 2; have hfz134_3 := blk_frozen BK370.out 3; have hnb135 := NB361_360.out; have hnc135 := NB360_361.out; have hnb136 := NB361_0.out; have hnc136 := NB0_361.out; have hcz137_0 : w130.cell? ⟨gb361, 0, none⟩ = some (.int .i64 0) := (blk_cell BK361.out 0).trans rfl; have hcz137_1 : w130.cell? ⟨gb361, 1, none⟩ = some (.int .i64 0) := (blk_cell BK361.out 1).trans rfl; have hcz137_2 : w130.cell? ⟨gb361, 2, none⟩ = some (.int .i64 0) := (blk_cell BK361.out 2).trans rfl; have hcz137_3 : w130.cell? ⟨gb361, 3, none⟩ = some (.string (⟨#[]⟩ : ByteArray)) := (blk_cell BK361.out 3).trans rfl; have hfz137_0 := blk_frozen BK361.out 0; have hfz137_1 := blk_frozen BK361.out 1; have hfz137_2 := blk_frozen BK361.out 2; have hfz137_3 := blk_frozen BK361.out 3))
 refine bodyPost_ret (results_cell_row rfl _ _ gb361 30 #[.int .i64 (wrap64 ((rd y362 t365) + (wrap64 ((wrap64 (Int.tdiv t368 59)) * 5)))), .int .i64 x371001_8, .int .i64 99, .string x371003_8] (0, 0) _ rfl (by (with_reducible repeat (first | refine blk_drewN ?_ _ | refine blk_drew ?_ | refine blk_alloc ?_ _)); refine blk_put (cs := #[.int .i64 (wrap64 ((rd y362 t365) + (wrap64 ((wrap64 (Int.tdiv t368 59)) * 5)))), .int .i64 x371001_8, .int .i64 99, .string (⟨#[]⟩ : ByteArray)]) ?_ 3 _ rfl; (with_reducible repeat (first | refine blk_drewN ?_ _ | refine blk_drew ?_ | refine blk_alloc ?_ _)); refine blk_put (cs := #[.int .i64 (wrap64 ((rd y362 t365) + (wrap64 ((wrap64 (Int.tdiv t368 59)) * 5)))), .int .i64 x371001_8, .int .i64 0, .string (⟨#[]⟩ : ByteArray)]) ?_ 2 _ rfl; (with_reducible repeat (first | refine blk_drewN ?_ _ | refine blk_drew ?_ | refine blk_alloc ?_ _)); refine blk_put (cs := #[.int .i64 (wrap64 ((rd y362 t365) + (wrap64 ((wrap64 (Int.tdiv t368 59)) * 5)))), .int .i64 0, .int .i64 0, .string (⟨#[]⟩ : ByteArray)]) ?_ 1 _ rfl; (with_reducible repeat (first | refine blk_drewN ?_ _ | refine blk_drew ?_ | refine blk_alloc ?_ _)); refine blk_put (cs := #[.int .i64 0, .int .i64 0, .int .i64 0, .string (⟨#[]⟩ : ByteArray)]) ?_ 0 _ rfl; (with_reducible repeat (first | refine blk_drewN ?_ _ | refine blk_drew ?_ | refine blk_alloc ?_ _)); refine blk_far ?_ NB361_370.out _; (with_reducible repeat (first | refine blk_drewN ?_ _ | refine blk_drew ?_ | refine blk_alloc ?_ _)); exact BK361.out) Tryd.underlying30 rfl (by kernel_rfl)) rfl ?_
 exact ⟨zcj_102, zcj_8, zcj_11, zcj_10⟩
 }
 }
 }
 {
 replace c93 := Bool.eq_false_iff.mpr c93
 subst c93
 rw [if_neg (show ¬ (false = true) by decide)] at H
 simp only [Option.some.injEq, Prod.mk.injEq] at H
 obtain ⟨rfl, rfl, rfl, rfl, rfl⟩ := H
 go_wp2_with (first | ((with_reducible refine gate_callee (f := 39) rfl ?_); refine goesL_ (some 91) rfl rfl Tryd.func39 (by kernel_rfl) rfl #[.pointer (some ⟨g, 0, none⟩), .int .i64 40] rfl zcj_3 ?_; (with_reducible refine (spec_l20Rd_odd.calls kj8 g s0_0 x1001_8 40 false t396 w0 _ ?side1 ?side2 A92.out).mono ?_); (case side1 => exact zcj_8); (case side2 => exact zcj_11); rintro e w138 ⟨rfl, hi, hb, hk⟩; refine ⟨_, rfl, ?_⟩; refine zcj_f2 ?_; clear BK360; clear BK361; clear BK370; clear HK; clear HB; clear HI0; intro BK360 BK361 BK370 HK HB HI0; (try clear hb); (try clear hb2); (try clear hk); (try clear hi); have hnb139 := NB370_360.out; have hnc139 := NB360_370.out; have hnb140 := NB370_361.out; have hnc140 := NB361_370.out; have hnb141 := NB370_0.out; have hnc141 := NB0_370.out; have hcz142_0 : w138.cell? ⟨gb370, 0, none⟩ = some (.int .i64 (wrap64 ((rd y362 t365) + (wrap64 ((wrap64 (Int.tdiv t368 59)) * 5))))) := (blk_cell BK370.out 0).trans rfl; have hcz142_1 : w138.cell? ⟨gb370, 1, none⟩ = some (.int .i64 x371001_8) := (blk_cell BK370.out 1).trans rfl; have hcz142_2 : w138.cell? ⟨gb370, 2, none⟩ = some (.int .i64 x371002_8) := (blk_cell BK370.out 2).trans rfl; have hcz142_3 : w138.cell? ⟨gb370, 3, none⟩ = some (.string x371003_8) := (blk_cell BK370.out 3).trans rfl; have hfz142_0 := blk_frozen BK370.out 0; have hfz142_1 := blk_frozen BK370.out 1; have hfz142_2 := blk_frozen BK370.out 2; have hfz142_3 := blk_frozen BK370.out 3; have hnb143 := NB361_360.out; have hnc143 := NB360_361.out; have hnb144 := NB361_0.out; have hnc144 := NB0_361.out; have hcz145_0 : w138.cell? ⟨gb361, 0, none⟩ = some (.int .i64 0) := (blk_cell BK361.out 0).trans rfl; have hcz145_1 : w138.cell? ⟨gb361, 1, none⟩ = some (.int .i64 0) := (blk_cell BK361.out 1).trans rfl; have hcz145_2 : w138.cell? ⟨gb361, 2, none⟩ = some (.int .i64 0) := (blk_cell BK361.out 2).trans rfl; have hcz145_3 : w138.cell? ⟨gb361, 3, none⟩ = some (.string (⟨#[]⟩ : ByteArray)) := (blk_cell BK361.out 3).trans rfl; have hfz145_0 := blk_frozen BK361.out 0; have hfz145_1 := blk_frozen BK361.out 1; have hfz145_2 := blk_frozen BK361.out 2; have hfz145_3 := blk_frozen BK361.out 3))
 refine bodyPost_ret (results_cell_row rfl _ _ gb361 30 #[.int .i64 (wrap64 ((rd y362 t365) + (wrap64 ((wrap64 (Int.tdiv t368 59)) * 5)))), .int .i64 x371001_8, .int .i64 x371002_8, .string x371003_8] (0, 0) _ rfl (by (with_reducible repeat (first | refine blk_drewN ?_ _ | refine blk_drew ?_ | refine blk_alloc ?_ _)); refine blk_put (cs := #[.int .i64 (wrap64 ((rd y362 t365) + (wrap64 ((wrap64 (Int.tdiv t368 59)) * 5)))), .int .i64 x371001_8, .int .i64 x371002_8, .string (⟨#[]⟩ : ByteArray)]) ?_ 3 _ rfl; (with_reducible repeat (first | refine blk_drewN ?_ _ | refine blk_drew ?_ | refine blk_alloc ?_ _)); refine blk_put (cs := #[.int .i64 (wrap64 ((rd y362 t365) + (wrap64 ((wrap64 (Int.tdiv t368 59)) * 5)))), .int .i64 x371001_8, .int .i64 0, .string (⟨#[]⟩ : ByteArray)]) ?_ 2 _ rfl; (with_reducible repeat (first | refine blk_drewN ?_ _ | refine blk_drew ?_ | refine blk_alloc ?_ _)); refine blk_put (cs := #[.int .i64 (wrap64 ((rd y362 t365) + (wrap64 ((wrap64 (Int.tdiv t368 59)) * 5)))), .int .i64 0, .int .i64 0, .string (⟨#[]⟩ : ByteArray)]) ?_ 1 _ rfl; (with_reducible repeat (first | refine blk_drewN ?_ _ | refine blk_drew ?_ | refine blk_alloc ?_ _)); refine blk_put (cs := #[.int .i64 0, .int .i64 0, .int .i64 0, .string (⟨#[]⟩ : ByteArray)]) ?_ 0 _ rfl; (with_reducible repeat (first | refine blk_drewN ?_ _ | refine blk_drew ?_ | refine blk_alloc ?_ _)); exact BK361.out) Tryd.underlying30 rfl (by kernel_rfl)) rfl ?_
 exact ⟨zcj_102, zcj_8, zcj_11, zcj_10⟩
 }
 )
 )
 }
 {
 rw [if_neg c5] at H
 exact absurd H (by simp)
 }
 }
 {
 rw [if_neg c4] at H
 exact absurd H (by simp)
 }
end Go.Proofs.YtnkfbappnpnaoaaDoor.Q
