/- A part of this claim's proof: functions of the program as plain functions, with the proof that the code comes to their answers, and facts about them. Condition: none of its own. -/
import Derived.Test.YtnkfbappnpnaoaaDoorCJx1
import Derived.Test.YtnkfbappnpnaoaaDoorCJx5
import Derived.Test.YtnkfbappnpnaoaaDoorCJx9
import Derived.Test.YtnkfbappnpnaoaaDoorCJz
namespace Go.Proofs.YtnkfbappnpnaoaaDoor.Q
open Go.RowKit Go.Proofs.YtnkfbappnpnaoaaDoorW.PrintWords Go.Proofs.YtnkfbappnpnaoaaDoorW.PrintLast Go.Proofs.YtnkfbappnpnaoaaDoorW.PrintMore
attribute [local go_sem] max2_int min2_int max_two min_two max_three min_three max_four min_four   -- for this text's walks alone
set_option linter.unusedVariables false
set_option linter.unusedSimpArgs false
def spec_l3Text.f : Nat → List (S77) → Option (ByteArray)
  | 0, _ => none
  | k + 1, l0 => if 0 ≤ (wrap64 ((l0.length : Int) - 1)) then (if (wrap64 ((l0.length : Int) - 1)) < (l0.length : Int) then (if ((rd_T77 l0 (wrap64 ((l0.length : Int) - 1))).f0) = 0 then ((some (([(wrap64 (65 + ((rd_T77 l0 (wrap64 ((l0.length : Int) - 1))).f1))) % 256] : List Int) : List Int)).bind fun y257 => ((spec_l1Number.f k ((rd_T77 l0 (wrap64 ((l0.length : Int) - 1))).f2)).bind fun t261 => (if (strOfNums y257).size + t261.size ≤ 9223372036854775807 then (some ((strOfNums y257) ++ t261)) else (none)))) else ((spec_l3Starts.f k l0 (wrap64 ((wrap64 ((l0.length : Int) - 1)) - 1))).bind fun t262 => (if 0 ≤ t262 then (if t262 ≤ (l0.length : Int) then ((spec_l3Text.f k (l0.take (t262 : Int).toNat)).bind fun t267 => (if t262 ≤ (wrap64 ((l0.length : Int) - 1)) then (if (wrap64 ((l0.length : Int) - 1)) ≤ (l0.length : Int) then ((spec_l3Text.f k ((l0.take ((wrap64 ((l0.length : Int) - 1)) : Int).toNat).drop (t262 : Int).toNat)).bind fun t272 => (if ((rd_T77 l0 (wrap64 ((l0.length : Int) - 1))).f0) = 2 then (if 0 ≤ (wrap64 ((wrap64 ((l0.length : Int) - 1)) - 1)) then (if (wrap64 ((wrap64 ((l0.length : Int) - 1)) - 1)) < (l0.length : Int) then (if ((rd_T77 l0 (wrap64 ((wrap64 ((l0.length : Int) - 1)) - 1))).f0) = 2 then (if 1 + t272.size ≤ 9223372036854775807 then (if ((⟨#[40]⟩ : ByteArray) ++ t272).size + 1 ≤ 9223372036854775807 then (if t267.size + 1 ≤ 9223372036854775807 then (if (t267 ++ (⟨#[124]⟩ : ByteArray)).size + (((⟨#[40]⟩ : ByteArray) ++ t272) ++ (⟨#[41]⟩ : ByteArray)).size ≤ 9223372036854775807 then (some ((t267 ++ (⟨#[124]⟩ : ByteArray)) ++ (((⟨#[40]⟩ : ByteArray) ++ t272) ++ (⟨#[41]⟩ : ByteArray)))) else (none)) else (none)) else (none)) else (none)) else (if t267.size + 1 ≤ 9223372036854775807 then (if (t267 ++ (⟨#[124]⟩ : ByteArray)).size + t272.size ≤ 9223372036854775807 then (some ((t267 ++ (⟨#[124]⟩ : ByteArray)) ++ t272)) else (none)) else (none))) else (none)) else (none)) else (if 0 ≤ (wrap64 (t262 - 1)) then (if (wrap64 (t262 - 1)) < (l0.length : Int) then (if ((rd_T77 l0 (wrap64 (t262 - 1))).f0) = 2 then (if 1 + t267.size ≤ 9223372036854775807 then (if ((⟨#[40]⟩ : ByteArray) ++ t267).size + 1 ≤ 9223372036854775807 then (if 0 ≤ (wrap64 ((wrap64 ((l0.length : Int) - 1)) - 1)) then (if (wrap64 ((wrap64 ((l0.length : Int) - 1)) - 1)) < (l0.length : Int) then (if ((rd_T77 l0 (wrap64 ((wrap64 ((l0.length : Int) - 1)) - 1))).f0) = 0 then (if (((⟨#[40]⟩ : ByteArray) ++ t267) ++ (⟨#[41]⟩ : ByteArray)).size + 1 ≤ 9223372036854775807 then (if ((((⟨#[40]⟩ : ByteArray) ++ t267) ++ (⟨#[41]⟩ : ByteArray)) ++ (⟨#[38]⟩ : ByteArray)).size + t272.size ≤ 9223372036854775807 then (some (((((⟨#[40]⟩ : ByteArray) ++ t267) ++ (⟨#[41]⟩ : ByteArray)) ++ (⟨#[38]⟩ : ByteArray)) ++ t272)) else (none)) else (none)) else (if 1 + t272.size ≤ 9223372036854775807 then (if ((⟨#[40]⟩ : ByteArray) ++ t272).size + 1 ≤ 9223372036854775807 then (if (((⟨#[40]⟩ : ByteArray) ++ t267) ++ (⟨#[41]⟩ : ByteArray)).size + 1 ≤ 9223372036854775807 then (if ((((⟨#[40]⟩ : ByteArray) ++ t267) ++ (⟨#[41]⟩ : ByteArray)) ++ (⟨#[38]⟩ : ByteArray)).size + (((⟨#[40]⟩ : ByteArray) ++ t272) ++ (⟨#[41]⟩ : ByteArray)).size ≤ 9223372036854775807 then (some (((((⟨#[40]⟩ : ByteArray) ++ t267) ++ (⟨#[41]⟩ : ByteArray)) ++ (⟨#[38]⟩ : ByteArray)) ++ (((⟨#[40]⟩ : ByteArray) ++ t272) ++ (⟨#[41]⟩ : ByteArray)))) else (none)) else (none)) else (none)) else (none))) else (none)) else (none)) else (none)) else (none)) else (if 0 ≤ (wrap64 ((wrap64 ((l0.length : Int) - 1)) - 1)) then (if (wrap64 ((wrap64 ((l0.length : Int) - 1)) - 1)) < (l0.length : Int) then (if ((rd_T77 l0 (wrap64 ((wrap64 ((l0.length : Int) - 1)) - 1))).f0) = 0 then (if t267.size + 1 ≤ 9223372036854775807 then (if (t267 ++ (⟨#[38]⟩ : ByteArray)).size + t272.size ≤ 9223372036854775807 then (some ((t267 ++ (⟨#[38]⟩ : ByteArray)) ++ t272)) else (none)) else (none)) else (if 1 + t272.size ≤ 9223372036854775807 then (if ((⟨#[40]⟩ : ByteArray) ++ t272).size + 1 ≤ 9223372036854775807 then (if t267.size + 1 ≤ 9223372036854775807 then (if (t267 ++ (⟨#[38]⟩ : ByteArray)).size + (((⟨#[40]⟩ : ByteArray) ++ t272) ++ (⟨#[41]⟩ : ByteArray)).size ≤ 9223372036854775807 then (some ((t267 ++ (⟨#[38]⟩ : ByteArray)) ++ (((⟨#[40]⟩ : ByteArray) ++ t272) ++ (⟨#[41]⟩ : ByteArray)))) else (none)) else (none)) else (none)) else (none))) else (none)) else (none))) else (none)) else (none)))) else (none)) else (none))) else (none)) else (none)))) else (none)) else (none)
def spec_l3Text.T3 : Bool × List (List Nat × List Nat) := (true, [([], []), ([], []), ([0, 1], [0, 1]), ([2], [2]), ([3], [3]), ([4], [4]), ([5], [5]), ([6], [6]), ([7], [7]), ([], []), ([], []), ([9, 10], [9, 10]), ([11], [11]), ([12], [12]), ([13], [13]), ([8, 14], [8, 14]), ([15, 14, 0, 1, 2, 3, 4, 5, 6, 7, 8, 9, 10, 11, 12, 13, 14, 15], [15])])
def spec_l3Text.B3 : List Nat := [0, 0, 3, 7, 15, 31, 63, 127, 255, 0, 0, 1536, 3584, 7680, 15872, 32767, 65535]
theorem spec_l3Text.tab3 : rtab .any (opsOf Tryd.f53 3) = spec_l3Text.T3 := by kernel_rfl
theorem spec_l3Text.bits3 : waitsOk spec_l3Text.T3.2 spec_l3Text.B3 = true := by kernel_rfl
set_option maxHeartbeats 8000000 in
set_option maxRecDepth 100000 in
theorem spec_l3Text.calls (k : Nat) : ∀ (A0 : Option Addr) (c0 : Nat) (l0 : List (S77)) (r : ByteArray) (w : World) (hr0 : Kd.C k77 w A0 l0.length l0) (hc0 : l0.length ≤ c0) (h : spec_l3Text.f k l0 = some r),
    Calls Tryd.prog 53 #[.slice A0 l0.length c0] w fun e w' => e = .returned (.string r) ∧ Below w.heap.size w w' := by
 induction k using Nat.strongRecOn with
 | _ k ih =>
 intro A0 c0 l0 r w hr0 hc0 h
 cases k with
 | zero => exact absurd h (by simp [spec_l3Text.f])
 | succ k =>
 simp only [spec_l3Text.f] at h
 have HR0 := Aside0.mk hr0
 have HC0 := Aside0.mk hc0
 clear hr0 hc0
 have HB := Aside0.mk (Below.refl w.heap.size w)
 have H : (if 0 ≤ (wrap64 ((l0.length : Int) - 1)) then (if (wrap64 ((l0.length : Int) - 1)) < (l0.length : Int) then (if ((rd_T77 l0 (wrap64 ((l0.length : Int) - 1))).f0) = 0 then ((some (([(wrap64 (65 + ((rd_T77 l0 (wrap64 ((l0.length : Int) - 1))).f1))) % 256] : List Int) : List Int)).bind fun y257 => ((spec_l1Number.f k ((rd_T77 l0 (wrap64 ((l0.length : Int) - 1))).f2)).bind fun t261 => (if (strOfNums y257).size + t261.size ≤ 9223372036854775807 then (some ((strOfNums y257) ++ t261)) else (none)))) else ((spec_l3Starts.f k l0 (wrap64 ((wrap64 ((l0.length : Int) - 1)) - 1))).bind fun t262 => (if 0 ≤ t262 then (if t262 ≤ (l0.length : Int) then ((spec_l3Text.f k (l0.take (t262 : Int).toNat)).bind fun t267 => (if t262 ≤ (wrap64 ((l0.length : Int) - 1)) then (if (wrap64 ((l0.length : Int) - 1)) ≤ (l0.length : Int) then ((spec_l3Text.f k ((l0.take ((wrap64 ((l0.length : Int) - 1)) : Int).toNat).drop (t262 : Int).toNat)).bind fun t272 => (if ((rd_T77 l0 (wrap64 ((l0.length : Int) - 1))).f0) = 2 then (if 0 ≤ (wrap64 ((wrap64 ((l0.length : Int) - 1)) - 1)) then (if (wrap64 ((wrap64 ((l0.length : Int) - 1)) - 1)) < (l0.length : Int) then (if ((rd_T77 l0 (wrap64 ((wrap64 ((l0.length : Int) - 1)) - 1))).f0) = 2 then (if 1 + t272.size ≤ 9223372036854775807 then (if ((⟨#[40]⟩ : ByteArray) ++ t272).size + 1 ≤ 9223372036854775807 then (if t267.size + 1 ≤ 9223372036854775807 then (if (t267 ++ (⟨#[124]⟩ : ByteArray)).size + (((⟨#[40]⟩ : ByteArray) ++ t272) ++ (⟨#[41]⟩ : ByteArray)).size ≤ 9223372036854775807 then (some ((t267 ++ (⟨#[124]⟩ : ByteArray)) ++ (((⟨#[40]⟩ : ByteArray) ++ t272) ++ (⟨#[41]⟩ : ByteArray)))) else (none)) else (none)) else (none)) else (none)) else (if t267.size + 1 ≤ 9223372036854775807 then (if (t267 ++ (⟨#[124]⟩ : ByteArray)).size + t272.size ≤ 9223372036854775807 then (some ((t267 ++ (⟨#[124]⟩ : ByteArray)) ++ t272)) else (none)) else (none))) else (none)) else (none)) else (if 0 ≤ (wrap64 (t262 - 1)) then (if (wrap64 (t262 - 1)) < (l0.length : Int) then (if ((rd_T77 l0 (wrap64 (t262 - 1))).f0) = 2 then (if 1 + t267.size ≤ 9223372036854775807 then (if ((⟨#[40]⟩ : ByteArray) ++ t267).size + 1 ≤ 9223372036854775807 then (if 0 ≤ (wrap64 ((wrap64 ((l0.length : Int) - 1)) - 1)) then (if (wrap64 ((wrap64 ((l0.length : Int) - 1)) - 1)) < (l0.length : Int) then (if ((rd_T77 l0 (wrap64 ((wrap64 ((l0.length : Int) - 1)) - 1))).f0) = 0 then (if (((⟨#[40]⟩ : ByteArray) ++ t267) ++ (⟨#[41]⟩ : ByteArray)).size + 1 ≤ 9223372036854775807 then (if ((((⟨#[40]⟩ : ByteArray) ++ t267) ++ (⟨#[41]⟩ : ByteArray)) ++ (⟨#[38]⟩ : ByteArray)).size + t272.size ≤ 9223372036854775807 then (some (((((⟨#[40]⟩ : ByteArray) ++ t267) ++ (⟨#[41]⟩ : ByteArray)) ++ (⟨#[38]⟩ : ByteArray)) ++ t272)) else (none)) else (none)) else (if 1 + t272.size ≤ 9223372036854775807 then (if ((⟨#[40]⟩ : ByteArray) ++ t272).size + 1 ≤ 9223372036854775807 then (if (((⟨#[40]⟩ : ByteArray) ++ t267) ++ (⟨#[41]⟩ : ByteArray)).size + 1 ≤ 9223372036854775807 then (if ((((⟨#[40]⟩ : ByteArray) ++ t267) ++ (⟨#[41]⟩ : ByteArray)) ++ (⟨#[38]⟩ : ByteArray)).size + (((⟨#[40]⟩ : ByteArray) ++ t272) ++ (⟨#[41]⟩ : ByteArray)).size ≤ 9223372036854775807 then (some (((((⟨#[40]⟩ : ByteArray) ++ t267) ++ (⟨#[41]⟩ : ByteArray)) ++ (⟨#[38]⟩ : ByteArray)) ++ (((⟨#[40]⟩ : ByteArray) ++ t272) ++ (⟨#[41]⟩ : ByteArray)))) else (none)) else (none)) else (none)) else (none))) else (none)) else (none)) else (none)) else (none)) else (if 0 ≤ (wrap64 ((wrap64 ((l0.length : Int) - 1)) - 1)) then (if (wrap64 ((wrap64 ((l0.length : Int) - 1)) - 1)) < (l0.length : Int) then (if ((rd_T77 l0 (wrap64 ((wrap64 ((l0.length : Int) - 1)) - 1))).f0) = 0 then (if t267.size + 1 ≤ 9223372036854775807 then (if (t267 ++ (⟨#[38]⟩ : ByteArray)).size + t272.size ≤ 9223372036854775807 then (some ((t267 ++ (⟨#[38]⟩ : ByteArray)) ++ t272)) else (none)) else (none)) else (if 1 + t272.size ≤ 9223372036854775807 then (if ((⟨#[40]⟩ : ByteArray) ++ t272).size + 1 ≤ 9223372036854775807 then (if t267.size + 1 ≤ 9223372036854775807 then (if (t267 ++ (⟨#[38]⟩ : ByteArray)).size + (((⟨#[40]⟩ : ByteArray) ++ t272) ++ (⟨#[41]⟩ : ByteArray)).size ≤ 9223372036854775807 then (some ((t267 ++ (⟨#[38]⟩ : ByteArray)) ++ (((⟨#[40]⟩ : ByteArray) ++ t272) ++ (⟨#[41]⟩ : ByteArray)))) else (none)) else (none)) else (none)) else (none))) else (none)) else (none))) else (none)) else (none)))) else (none)) else (none))) else (none)) else (none)))) else (none)) else (none)) = some r := h
 clear h
 obtain ⟨ji2, hji2⟩ : ∃ j_ : Int, (wrap64 ((l0.length : Int) - 1)) = j_ := ⟨_, rfl⟩
 replace H : (if 0 ≤ (ji2) then (if (ji2) < (l0.length : Int) then (if ((rd_T77 l0 (ji2)).f0) = 0 then ((some (([(wrap64 (65 + ((rd_T77 l0 (ji2)).f1))) % 256] : List Int) : List Int)).bind fun y257 => ((spec_l1Number.f k ((rd_T77 l0 (ji2)).f2)).bind fun t261 => (if (strOfNums y257).size + t261.size ≤ 9223372036854775807 then (some ((strOfNums y257) ++ t261)) else (none)))) else ((spec_l3Starts.f k l0 (wrap64 ((ji2) - 1))).bind fun t262 => (if 0 ≤ t262 then (if t262 ≤ (l0.length : Int) then ((spec_l3Text.f k (l0.take (t262 : Int).toNat)).bind fun t267 => (if t262 ≤ (ji2) then (if (ji2) ≤ (l0.length : Int) then ((spec_l3Text.f k ((l0.take ((ji2) : Int).toNat).drop (t262 : Int).toNat)).bind fun t272 => (if ((rd_T77 l0 (ji2)).f0) = 2 then (if 0 ≤ (wrap64 ((ji2) - 1)) then (if (wrap64 ((ji2) - 1)) < (l0.length : Int) then (if ((rd_T77 l0 (wrap64 ((ji2) - 1))).f0) = 2 then (if 1 + t272.size ≤ 9223372036854775807 then (if ((⟨#[40]⟩ : ByteArray) ++ t272).size + 1 ≤ 9223372036854775807 then (if t267.size + 1 ≤ 9223372036854775807 then (if (t267 ++ (⟨#[124]⟩ : ByteArray)).size + (((⟨#[40]⟩ : ByteArray) ++ t272) ++ (⟨#[41]⟩ : ByteArray)).size ≤ 9223372036854775807 then (some ((t267 ++ (⟨#[124]⟩ : ByteArray)) ++ (((⟨#[40]⟩ : ByteArray) ++ t272) ++ (⟨#[41]⟩ : ByteArray)))) else (none)) else (none)) else (none)) else (none)) else (if t267.size + 1 ≤ 9223372036854775807 then (if (t267 ++ (⟨#[124]⟩ : ByteArray)).size + t272.size ≤ 9223372036854775807 then (some ((t267 ++ (⟨#[124]⟩ : ByteArray)) ++ t272)) else (none)) else (none))) else (none)) else (none)) else (if 0 ≤ (wrap64 (t262 - 1)) then (if (wrap64 (t262 - 1)) < (l0.length : Int) then (if ((rd_T77 l0 (wrap64 (t262 - 1))).f0) = 2 then (if 1 + t267.size ≤ 9223372036854775807 then (if ((⟨#[40]⟩ : ByteArray) ++ t267).size + 1 ≤ 9223372036854775807 then (if 0 ≤ (wrap64 ((ji2) - 1)) then (if (wrap64 ((ji2) - 1)) < (l0.length : Int) then (if ((rd_T77 l0 (wrap64 ((ji2) - 1))).f0) = 0 then (if (((⟨#[40]⟩ : ByteArray) ++ t267) ++ (⟨#[41]⟩ : ByteArray)).size + 1 ≤ 9223372036854775807 then (if ((((⟨#[40]⟩ : ByteArray) ++ t267) ++ (⟨#[41]⟩ : ByteArray)) ++ (⟨#[38]⟩ : ByteArray)).size + t272.size ≤ 9223372036854775807 then (some (((((⟨#[40]⟩ : ByteArray) ++ t267) ++ (⟨#[41]⟩ : ByteArray)) ++ (⟨#[38]⟩ : ByteArray)) ++ t272)) else (none)) else (none)) else (if 1 + t272.size ≤ 9223372036854775807 then (if ((⟨#[40]⟩ : ByteArray) ++ t272).size + 1 ≤ 9223372036854775807 then (if (((⟨#[40]⟩ : ByteArray) ++ t267) ++ (⟨#[41]⟩ : ByteArray)).size + 1 ≤ 9223372036854775807 then (if ((((⟨#[40]⟩ : ByteArray) ++ t267) ++ (⟨#[41]⟩ : ByteArray)) ++ (⟨#[38]⟩ : ByteArray)).size + (((⟨#[40]⟩ : ByteArray) ++ t272) ++ (⟨#[41]⟩ : ByteArray)).size ≤ 9223372036854775807 then (some (((((⟨#[40]⟩ : ByteArray) ++ t267) ++ (⟨#[41]⟩ : ByteArray)) ++ (⟨#[38]⟩ : ByteArray)) ++ (((⟨#[40]⟩ : ByteArray) ++ t272) ++ (⟨#[41]⟩ : ByteArray)))) else (none)) else (none)) else (none)) else (none))) else (none)) else (none)) else (none)) else (none)) else (if 0 ≤ (wrap64 ((ji2) - 1)) then (if (wrap64 ((ji2) - 1)) < (l0.length : Int) then (if ((rd_T77 l0 (wrap64 ((ji2) - 1))).f0) = 0 then (if t267.size + 1 ≤ 9223372036854775807 then (if (t267 ++ (⟨#[38]⟩ : ByteArray)).size + t272.size ≤ 9223372036854775807 then (some ((t267 ++ (⟨#[38]⟩ : ByteArray)) ++ t272)) else (none)) else (none)) else (if 1 + t272.size ≤ 9223372036854775807 then (if ((⟨#[40]⟩ : ByteArray) ++ t272).size + 1 ≤ 9223372036854775807 then (if t267.size + 1 ≤ 9223372036854775807 then (if (t267 ++ (⟨#[38]⟩ : ByteArray)).size + (((⟨#[40]⟩ : ByteArray) ++ t272) ++ (⟨#[41]⟩ : ByteArray)).size ≤ 9223372036854775807 then (some ((t267 ++ (⟨#[38]⟩ : ByteArray)) ++ (((⟨#[40]⟩ : ByteArray) ++ t272) ++ (⟨#[41]⟩ : ByteArray)))) else (none)) else (none)) else (none)) else (none))) else (none)) else (none))) else (none)) else (none)))) else (none)) else (none))) else (none)) else (none)))) else (none)) else (none)) = some r := by first | (rw [hji2] at H; exact H) | (simp only [hji2] at H ⊢; exact H)
 have hji2w : (IntKind.i64.wrap ((l0.length : Int) - 1)) = ji2 := (i64_w _).trans hji2
 by_cases c3 : 0 ≤ (ji2)
 {
 rw [if_pos c3] at H
 have c3b0 : decide (0 ≤ (ji2)) = true := decide_eq_true c3
 clear c3
 by_cases c4 : (ji2) < (l0.length : Int)
 {
 rw [if_pos c4] at H
 have c4b0 : decide ((ji2) < (l0.length : Int)) = true := decide_eq_true c4
 clear c4
 by_cases c5 : ((rd_T77 l0 (ji2)).f0) = 0
 {
 rw [if_pos c5] at H
 have c5b0 : (((rd_T77 l0 (ji2)).f0) == 0) = true := beq_iff_eq.mpr c5
 have c5b1 : (((rd_T77 l0 (ji2)).f0) != 0) = false := bne_eq_false_iff_eq.mpr c5
 clear c5
 obtain ⟨y257, hy257⟩ : ∃ y_ : List Int, y_ = (([(wrap64 (65 + ((rd_T77 l0 (ji2)).f1))) % 256] : List Int)) := ⟨_, rfl⟩
 replace H : ((spec_l1Number.f k ((rd_T77 l0 (ji2)).f2)).bind fun t261 => (if (strOfNums y257).size + t261.size ≤ 9223372036854775807 then (some ((strOfNums y257) ++ t261)) else (none))) = some r := by first | (rw [hy257]; with_reducible exact H) | (have H2_ := (Option.bind_some _ _).symm.trans H; rw [hy257]; with_reducible exact H2_) | (have H2_ := (Option.bind_some _ _).symm.trans H; with_reducible exact H2_) | with_reducible exact H | (rw [hy257]; exact H) | exact H
 have Ny257 := Aside0.mk hy257
 clear hy257
 replace H := Option.bind_eq_some_iff.mp H
 obtain ⟨t261, A60, H⟩ := H
 try dsimp only at H
 have A6 := Aside0.mk A60
 clear A60
 by_cases c7 : (strOfNums y257).size + t261.size ≤ 9223372036854775807
 {
 rw [if_pos c7] at H
 have c7b0 := eq_true c7
 have c7b1 : decide ((strOfNums y257).size + t261.size ≤ 9223372036854775807) = true := decide_eq_true c7
 try have c7b2 : (9223372036854775807 < (strOfNums y257).size + t261.size) = False := eq_false (Nat.not_lt.2 c7)
 obtain rfl := Option.some.inj H
 have p255 : 0 ≤ ((ji2) : Int) := of_decide_eq_true zcj_2
 have q255 : (ji2) < (l0.length : Int) := of_decide_eq_true zcj_2
 obtain ⟨ad255, e255, hx255_0, hx255_1, hx255_2⟩ := at_T77 HR0.out (ji2) p255 q255
 cases e255
 replace p255 := eq_true p255
 replace q255 := eq_true q255
 go_enter Tryd.func53, Tryd.ntmps53
 try go_wp2
 have n0_ := Aside0.mk (below_drew1 HB.out)
 clear HB
 have HB := n0_
 clear n0_
 have p256 : 0 ≤ ((ji2) : Int) := of_decide_eq_true zcj_2
 have q256 : (ji2) < (l0.length : Int) := of_decide_eq_true zcj_2
 obtain ⟨ad256, e256, hx256_0, hx256_1, hx256_2⟩ := at_T77 HR0.out (ji2) p256 q256
 have hw256_2 := hx256_2
 have hw256_1 := hx256_1
 have hw256_0 := hx256_0
 obtain rfl : ad255 = ad256 := (by injection e256)
 replace hx256_0 := (HB.out.cell (World.block_lt_of_cell? w _ hx256_0)).trans hx256_0
 replace hx256_1 := (HB.out.cell (World.block_lt_of_cell? w _ hx256_1)).trans hx256_1
 replace hx256_2 := (HB.out.cell (World.block_lt_of_cell? w _ hx256_2)).trans hx256_2
 replace p256 := eq_true p256
 replace q256 := eq_true q256
 have p260 : 0 ≤ ((ji2) : Int) := of_decide_eq_true zcj_2
 have q260 : (ji2) < (l0.length : Int) := of_decide_eq_true zcj_2
 obtain ⟨ad260, e260, hx260_0, hx260_1, hx260_2⟩ := at_T77 HR0.out (ji2) p260 q260
 have hw260_2 := hx260_2
 have hw260_1 := hx260_1
 have hw260_0 := hx260_0
 obtain rfl : ad255 = ad260 := (by injection e260)
 replace hx260_0 := (HB.out.cell (World.block_lt_of_cell? w _ hx260_0)).trans hx260_0
 replace hx260_1 := (HB.out.cell (World.block_lt_of_cell? w _ hx260_1)).trans hx260_1
 replace hx260_2 := (HB.out.cell (World.block_lt_of_cell? w _ hx260_2)).trans hx260_2
 replace p260 := eq_true p260
 replace q260 := eq_true q260
 refine start_ (n := 17) (S := fun w' => w'.cell? (ad255.add (((ji2)).toNat * 3)) = some (.int .i64 ((rd_T77 l0 (ji2)).f0)) ∧ w'.cell? ⟨(ad255.add (((ji2)).toNat * 3)).block, (ad255.add (((ji2)).toNat * 3)).off + 1, none⟩ = some (.int .i64 ((rd_T77 l0 (ji2)).f1)) ∧ w'.cell? ⟨(ad255.add (((ji2)).toNat * 3)).block, (ad255.add (((ji2)).toNat * 3)).off + 2, none⟩ = some (.int .i64 ((rd_T77 l0 (ji2)).f2)) ∧ w'.cell? (ad255.add (((ji2)).toNat * 3)) = some (.int .i64 ((rd_T77 l0 (ji2)).f0)) ∧ w'.cell? ⟨(ad255.add (((ji2)).toNat * 3)).block, (ad255.add (((ji2)).toNat * 3)).off + 1, none⟩ = some (.int .i64 ((rd_T77 l0 (ji2)).f1)) ∧ w'.cell? ⟨(ad255.add (((ji2)).toNat * 3)).block, (ad255.add (((ji2)).toNat * 3)).off + 2, none⟩ = some (.int .i64 ((rd_T77 l0 (ji2)).f2))) (ds := []) #[false, false, false, false, false, false, false, false, false, false, false, false, false, false, false, false, false] (by kernel_rfl) rfl rfl ⟨((HB.out.cell (World.block_lt_of_cell? w _ hw256_0)).trans hw256_0), ((HB.out.cell (World.block_lt_of_cell? w _ hw256_1)).trans hw256_1), ((HB.out.cell (World.block_lt_of_cell? w _ hw256_2)).trans hw256_2), ((HB.out.cell (World.block_lt_of_cell? w _ hw260_0)).trans hw260_0), ((HB.out.cell (World.block_lt_of_cell? w _ hw260_1)).trans hw260_1), ((HB.out.cell (World.block_lt_of_cell? w _ hw260_2)).trans hw260_2)⟩ (fun hHeld => ?_); refine with_tabW spec_l3Text.tab3 spec_l3Text.bits3 (fun HT_ HW_ => ?_)
 generalize w.drew = w8 at HB hx256_0 hx256_1 hx256_2 hx260_0 hx260_1 hx260_2 hHeld ⊢
 refine pure_ (i := 0) (N := some 16) (v := ?_) (a' := ?_) #[true, false, false, false, false, false, false, false, false, false, false, false, false, false, false, false, false] rfl rfl (any_of HT_.out (by kernel_rfl)) (fun _ _ _ h => h) (Or.inl ⟨by rfl, ?_⟩) ?_ ?_
 rotate_left
 {
 intro w'
 go_simp
 with_reducible rfl
 }
 rotate_left
 {exact zcj_1}
 refine pure_ (i := 1) (N := some 17) (v := ?_) (a' := ?_) #[true, true, false, false, false, false, false, false, false, false, false, false, false, false, false, false, false] rfl rfl (any_of HT_.out (by kernel_rfl)) (fun _ _ _ h => h) (Or.inl ⟨by rfl, ?_⟩) ?_ ?_
 rotate_left
 {
 intro w'
 go_simp
 with_reducible rfl
 }
 rotate_left
 {exact zcj_1}
 refine pure_ (i := 2) (N := some 18) (v := ?_) (a' := ?_) #[true, true, true, false, false, false, false, false, false, false, false, false, false, false, false, false, false] rfl rfl (any_of HT_.out (by kernel_rfl)) (fun _ _ _ h => h) (Or.inl ⟨by rfl, ?_⟩) ?_ ?_
 rotate_left
 {
 intro w'
 go_simp
 with_reducible rfl
 }
 rotate_left
 {exact zcj_1}
 refine pure_ (i := 3) (N := some 19) (v := ?_) (a' := ?_) #[true, true, true, true, false, false, false, false, false, false, false, false, false, false, false, false, false] rfl rfl (any_of HT_.out (by kernel_rfl)) (fun _ _ _ h => h) (Or.inl ⟨by rfl, ?_⟩) ?_ ?_
 rotate_left
 {
 intro w'
 go_simp
 with_reducible rfl
 }
 rotate_left
 {exact zcj_1}
 refine pure_ (i := 9) (N := some 25) (v := ?_) (a' := ?_) #[true, true, true, true, false, false, false, false, false, true, false, false, false, false, false, false, false] rfl rfl (any_of HT_.out (by kernel_rfl)) (fun _ _ _ h => h) (Or.inl ⟨by rfl, ?_⟩) ?_ ?_
 rotate_left
 {
 intro w'
 go_simp
 with_reducible rfl
 }
 rotate_left
 {exact zcj_1}
 refine pure_ (i := 10) (N := some 26) (v := ?_) (a' := ?_) #[true, true, true, true, false, false, false, false, false, true, true, false, false, false, false, false, false] rfl rfl (any_of HT_.out (by kernel_rfl)) (fun _ _ _ h => h) (Or.inl ⟨by rfl, ?_⟩) ?_ ?_
 rotate_left
 {
 intro w'
 go_simp
 with_reducible rfl
 }
 rotate_left
 {exact zcj_1}
 refine pure_ (i := 11) (N := some 27) (v := ?_) (a' := ?_) #[true, true, true, true, false, false, false, false, false, true, true, true, false, false, false, false, false] rfl rfl (any_of HT_.out (by kernel_rfl)) (fun _ _ _ h => h) (Or.inl ⟨by rfl, ?_⟩) ?_ ?_
 rotate_left
 {
 intro w'
 go_simp
 with_reducible rfl
 }
 rotate_left
 {exact zcj_1}
 refine pure_ (i := 12) (N := some 28) (v := ?_) (a' := ?_) #[true, true, true, true, false, false, false, false, false, true, true, true, true, false, false, false, false] rfl rfl (any_of HT_.out (by kernel_rfl)) (fun _ _ _ h => h) (Or.inl ⟨by rfl, ?_⟩) ?_ ?_
 rotate_left
 {
 intro w'
 go_simp
 with_reducible rfl
 }
 rotate_left
 {exact zcj_1}
 refine take_ (i := 4) (N := some 20) (v := ?_) (a' := ?_) #[true, true, true, true, true, false, false, false, false, true, true, true, true, false, false, false, false] rfl rfl (take_ofW HT_.out HW_.out (by kernel_rfl)) (fun _ _ _ h => h) (Or.inl ⟨by rfl, ?_⟩) hHeld ?_ ?_
 rotate_left
 {
 rintro w' ⟨s0, s1, s2, s3, s4, s5⟩
 go_simp
 with_reducible rfl
 }
 rotate_left
 {exact zcj_1}
 refine pure_ (i := 5) (N := some 21) (v := ?_) (a' := ?_) #[true, true, true, true, true, true, false, false, false, true, true, true, true, false, false, false, false] rfl rfl (any_of HT_.out (by kernel_rfl)) (fun _ _ _ h => h) (Or.inl ⟨by rfl, ?_⟩) ?_ ?_
 rotate_left
 {
 intro w'
 go_simp
 with_reducible rfl
 }
 rotate_left
 {exact zcj_1}
 refine pure_ (i := 6) (N := some 22) (v := ?_) (a' := ?_) #[true, true, true, true, true, true, true, false, false, true, true, true, true, false, false, false, false] rfl rfl (any_of HT_.out (by kernel_rfl)) (fun _ _ _ h => h) (Or.inl ⟨by rfl, ?_⟩) ?_ ?_
 rotate_left
 {
 intro w'
 go_simp
 with_reducible rfl
 }
 rotate_left
 {exact zcj_1}
 refine take_ (i := 13) (N := some 29) (v := ?_) (a' := ?_) #[true, true, true, true, true, true, true, false, false, true, true, true, true, true, false, false, false] rfl rfl (take_ofW HT_.out HW_.out (by kernel_rfl)) (fun _ _ _ h => h) (Or.inl ⟨by rfl, ?_⟩) hHeld ?_ ?_
 rotate_left
 {
 rintro w' ⟨s0, s1, s2, s3, s4, s5⟩
 go_simp
 with_reducible rfl
 }
 rotate_left
 {exact zcj_1}
 refine join_ (σ := Value) 2 #[true, true, true, true, true, true, true, true, true, true, true, true, true, true, true, false, false] (fun s_ => [(23, s_), (24, .string (strOfNums y257)), (30, .string t261)]) (fun s_ w' => (w'.cell? (ad255.add (((ji2)).toNat * 3)) = some (.int .i64 ((rd_T77 l0 (ji2)).f0)) ∧ w'.cell? ⟨(ad255.add (((ji2)).toNat * 3)).block, (ad255.add (((ji2)).toNat * 3)).off + 1, none⟩ = some (.int .i64 ((rd_T77 l0 (ji2)).f1)) ∧ w'.cell? ⟨(ad255.add (((ji2)).toNat * 3)).block, (ad255.add (((ji2)).toNat * 3)).off + 2, none⟩ = some (.int .i64 ((rd_T77 l0 (ji2)).f2)) ∧ w'.cell? (ad255.add (((ji2)).toNat * 3)) = some (.int .i64 ((rd_T77 l0 (ji2)).f0)) ∧ w'.cell? ⟨(ad255.add (((ji2)).toNat * 3)).block, (ad255.add (((ji2)).toNat * 3)).off + 1, none⟩ = some (.int .i64 ((rd_T77 l0 (ji2)).f1)) ∧ w'.cell? ⟨(ad255.add (((ji2)).toNat * 3)).block, (ad255.add (((ji2)).toNat * 3)).off + 2, none⟩ = some (.int .i64 ((rd_T77 l0 (ji2)).f2))) ∧ (Kd.R (Kd.int .u8) 5 w' w.heap.size (fun _ => True) s_ y257) ∧ (Below w.heap.size w w')) ?_ ?_
 rotate_left
 {
 intro hCont
 refine two_ (i := 7) (j := 14) (Ni := some 23) (Nj := some 30) #[true, true, true, true, true, true, true, true, false, true, true, true, true, true, false, false, false] #[true, true, true, true, true, true, true, false, false, true, true, true, true, true, true, false, false] rfl rfl rfl rfl (two_of HT_.out (by kernel_rfl)) (by decide) (by decide) (fun K hK => ?_) (fun K hK => ?_)
 {
 skip
 refine Kd.R_lit_step (Kd.int .u8) _ 5 ?hg (N := 23) ?hd (xs := ([(wrap64 (65 + ((rd_T77 l0 (ji2)).f1))) % 256] : List Int)) (inner := [.int .u8 ((wrap64 (65 + ((rd_T77 l0 (ji2)).f1))) % 256)]) (ok := fun _ => True) (okp := fun _ => True) ?hr ?hp (fun _ hk => hk) trivial (Below.refl _ _) (Nat.le_refl _) (by simp) ?_; (case hd => rfl); (case hg => rfl); (case hr => exact zcj_12); (case hp => exact zcj_138)
 intro v258 w9 ho10 hb hg_ hnew_
 clear hg_ hnew_
 (first | rw [← Ny257.out] at ho10 | (simp only [Int.reduceToNat] at ho10; rw [← Ny257.out] at ho10))
 have n0_ := Aside0.mk (Kd.R_lower ho10 (below_size zcj_5))
 have n1_ := Aside0.mk (below_step zcj_5 hb)
 clear HB
 have HO259 := n0_
 have HB := n1_
 clear n0_ n1_
 clear hb ho10
 refine hK.out _ _ ⟨((HB.out.cell (World.block_lt_of_cell? w _ hw256_0)).trans hw256_0), ((HB.out.cell (World.block_lt_of_cell? w _ hw256_1)).trans hw256_1), ((HB.out.cell (World.block_lt_of_cell? w _ hw256_2)).trans hw256_2), ((HB.out.cell (World.block_lt_of_cell? w _ hw260_0)).trans hw260_0), ((HB.out.cell (World.block_lt_of_cell? w _ hw260_1)).trans hw260_1), ((HB.out.cell (World.block_lt_of_cell? w _ hw260_2)).trans hw260_2)⟩ (fun hHeld => ?_)
 clear hK K
 refine norm_ (a' := ?_) ?_ ?_
 rotate_left
 {exact zcj_139}
 refine two_ (i := 8) (j := 14) (Ni := some 24) (Nj := some 30) #[true, true, true, true, true, true, true, true, true, true, true, true, true, true, false, false, false] #[true, true, true, true, true, true, true, true, false, true, true, true, true, true, true, false, false] rfl rfl rfl rfl (two_of HT_.out (by kernel_rfl)) (by decide) (by decide) (fun K hK => ?_) (fun K hK => ?_)
 {
 skip
 have hcv11 := own_string (P := Tryd.prog) Tryd.underlying28 Tryd.underlying5 Tryd.underlying9 (Kd.own_of_R HO259.out)
 refine value_ (w1 := ?_) (v := ?_) (by rfl) rfl ?_ ?_
 rotate_left 2
 {
 go_simp
 constructor
 {rfl}
 {rfl}
 }
 clear hcv11
 refine hK.out _ _ ⟨((HB.out.cell (World.block_lt_of_cell? w _ hw256_0)).trans hw256_0), ((HB.out.cell (World.block_lt_of_cell? w _ hw256_1)).trans hw256_1), ((HB.out.cell (World.block_lt_of_cell? w _ hw256_2)).trans hw256_2), ((HB.out.cell (World.block_lt_of_cell? w _ hw260_0)).trans hw260_0), ((HB.out.cell (World.block_lt_of_cell? w _ hw260_1)).trans hw260_1), ((HB.out.cell (World.block_lt_of_cell? w _ hw260_2)).trans hw260_2)⟩ (fun hHeld => ?_)
 clear hK K
 refine norm_ (a' := ?_) ?_ ?_
 rotate_left
 {exact zcj_95}
 refine one_ (i := 14) (N := some 30) #[true, true, true, true, true, true, true, true, true, true, true, true, true, true, true, false, false] rfl rfl (one_of HT_.out (by kernel_rfl)) (by decide) (fun K hK => ?_)
 refine goes_ Tryd.func31 (by kernel_rfl) rfl #[.int .i64 ((rd_T77 l0 (ji2)).f2)] (by rfl) rfl rfl zcj_109 ?_
 with_reducible refine (spec_l1Number.calls k ((rd_T77 l0 (ji2)).f2) t261 _ A6.out).mono ?_
 rintro e w12 ⟨rfl, hb⟩
 refine ⟨_, rfl, ?_⟩
 refine zcj_f22 ?_
 clear HO259
 clear HB
 intro HO259 HB
 (try clear hb)
 (try clear hb2)
 (try clear hk)
 (try clear hi)
 refine hK.out _ _ ⟨((HB.out.cell (World.block_lt_of_cell? w _ hw256_0)).trans hw256_0), ((HB.out.cell (World.block_lt_of_cell? w _ hw256_1)).trans hw256_1), ((HB.out.cell (World.block_lt_of_cell? w _ hw256_2)).trans hw256_2), ((HB.out.cell (World.block_lt_of_cell? w _ hw260_0)).trans hw260_0), ((HB.out.cell (World.block_lt_of_cell? w _ hw260_1)).trans hw260_1), ((HB.out.cell (World.block_lt_of_cell? w _ hw260_2)).trans hw260_2)⟩ (fun hHeld => ?_)
 clear hK K
 refine norm_ (a' := ?_) ?_ ?_
 rotate_left
 {exact zcj_82}
 exact norm_ (by simp only [putAll, Act.put, List.setIfInBounds_toArray, List.set_cons_zero, List.set_cons_succ]) (hCont (v258) _ ⟨hHeld, zcj_96, zcj_5⟩)
 }
 {
 skip
 refine goes_ Tryd.func31 (by kernel_rfl) rfl #[.int .i64 ((rd_T77 l0 (ji2)).f2)] (by rfl) rfl rfl zcj_109 ?_
 with_reducible refine (spec_l1Number.calls k ((rd_T77 l0 (ji2)).f2) t261 _ A6.out).mono ?_
 rintro e w11 ⟨rfl, hb⟩
 refine ⟨_, rfl, ?_⟩
 refine zcj_f22 ?_
 clear HO259
 clear HB
 intro HO259 HB
 (try clear hb)
 (try clear hb2)
 (try clear hk)
 (try clear hi)
 refine hK.out _ _ ⟨((HB.out.cell (World.block_lt_of_cell? w _ hw256_0)).trans hw256_0), ((HB.out.cell (World.block_lt_of_cell? w _ hw256_1)).trans hw256_1), ((HB.out.cell (World.block_lt_of_cell? w _ hw256_2)).trans hw256_2), ((HB.out.cell (World.block_lt_of_cell? w _ hw260_0)).trans hw260_0), ((HB.out.cell (World.block_lt_of_cell? w _ hw260_1)).trans hw260_1), ((HB.out.cell (World.block_lt_of_cell? w _ hw260_2)).trans hw260_2)⟩ (fun hHeld => ?_)
 clear hK K
 refine norm_ (a' := ?_) ?_ ?_
 rotate_left
 {exact zcj_82}
 refine one_ (i := 8) (N := some 24) #[true, true, true, true, true, true, true, true, true, true, true, true, true, true, true, false, false] rfl rfl (one_of HT_.out (by kernel_rfl)) (by decide) (fun K hK => ?_)
 have hcv12 := own_string (P := Tryd.prog) Tryd.underlying28 Tryd.underlying5 Tryd.underlying9 (Kd.own_of_R HO259.out)
 refine value_ (w1 := ?_) (v := ?_) (by rfl) rfl ?_ ?_
 rotate_left 2
 {
 go_simp
 constructor
 {rfl}
 {rfl}
 }
 clear hcv12
 refine hK.out _ _ ⟨((HB.out.cell (World.block_lt_of_cell? w _ hw256_0)).trans hw256_0), ((HB.out.cell (World.block_lt_of_cell? w _ hw256_1)).trans hw256_1), ((HB.out.cell (World.block_lt_of_cell? w _ hw256_2)).trans hw256_2), ((HB.out.cell (World.block_lt_of_cell? w _ hw260_0)).trans hw260_0), ((HB.out.cell (World.block_lt_of_cell? w _ hw260_1)).trans hw260_1), ((HB.out.cell (World.block_lt_of_cell? w _ hw260_2)).trans hw260_2)⟩ (fun hHeld => ?_)
 clear hK K
 refine norm_ (a' := ?_) ?_ ?_
 rotate_left
 {exact zcj_95}
 exact norm_ (by simp only [putAll, Act.put, List.setIfInBounds_toArray, List.set_cons_zero, List.set_cons_succ]) (hCont (v258) _ ⟨hHeld, zcj_96, zcj_5⟩)
 }
 }
 {
 skip
 refine goes_ Tryd.func31 (by kernel_rfl) rfl #[.int .i64 ((rd_T77 l0 (ji2)).f2)] (by rfl) rfl rfl zcj_109 ?_
 with_reducible refine (spec_l1Number.calls k ((rd_T77 l0 (ji2)).f2) t261 _ A6.out).mono ?_
 rintro e w9 ⟨rfl, hb⟩
 refine ⟨_, rfl, ?_⟩
 have n0_ := Aside0.mk (below_step zcj_5 hb)
 clear HB
 have HB := n0_
 clear n0_
 (try clear hb)
 (try clear hb2)
 (try clear hk)
 (try clear hi)
 refine hK.out _ _ ⟨((HB.out.cell (World.block_lt_of_cell? w _ hw256_0)).trans hw256_0), ((HB.out.cell (World.block_lt_of_cell? w _ hw256_1)).trans hw256_1), ((HB.out.cell (World.block_lt_of_cell? w _ hw256_2)).trans hw256_2), ((HB.out.cell (World.block_lt_of_cell? w _ hw260_0)).trans hw260_0), ((HB.out.cell (World.block_lt_of_cell? w _ hw260_1)).trans hw260_1), ((HB.out.cell (World.block_lt_of_cell? w _ hw260_2)).trans hw260_2)⟩ (fun hHeld => ?_)
 clear hK K
 refine norm_ (a' := ?_) ?_ ?_
 rotate_left
 {exact zcj_82}
 refine one_ (i := 7) (N := some 23) #[true, true, true, true, true, true, true, true, false, true, true, true, true, true, true, false, false] rfl rfl (one_of HT_.out (by kernel_rfl)) (by decide) (fun K hK => ?_)
 refine Kd.R_lit_step (Kd.int .u8) _ 5 ?hg (N := 23) ?hd (xs := ([(wrap64 (65 + ((rd_T77 l0 (ji2)).f1))) % 256] : List Int)) (inner := [.int .u8 ((wrap64 (65 + ((rd_T77 l0 (ji2)).f1))) % 256)]) (ok := fun _ => True) (okp := fun _ => True) ?hr ?hp (fun _ hk => hk) trivial (Below.refl _ _) (Nat.le_refl _) (by simp) ?_; (case hd => rfl); (case hg => rfl); (case hr => exact zcj_12); (case hp => exact zcj_138)
 intro v258 w10 ho11 hb hg_ hnew_
 clear hg_ hnew_
 (first | rw [← Ny257.out] at ho11 | (simp only [Int.reduceToNat] at ho11; rw [← Ny257.out] at ho11))
 refine zcj_f19 ?_
 clear HB
 intro HO259 HB
 clear hb ho11
 refine hK.out _ _ ⟨((HB.out.cell (World.block_lt_of_cell? w _ hw256_0)).trans hw256_0), ((HB.out.cell (World.block_lt_of_cell? w _ hw256_1)).trans hw256_1), ((HB.out.cell (World.block_lt_of_cell? w _ hw256_2)).trans hw256_2), ((HB.out.cell (World.block_lt_of_cell? w _ hw260_0)).trans hw260_0), ((HB.out.cell (World.block_lt_of_cell? w _ hw260_1)).trans hw260_1), ((HB.out.cell (World.block_lt_of_cell? w _ hw260_2)).trans hw260_2)⟩ (fun hHeld => ?_)
 clear hK K
 refine norm_ (a' := ?_) ?_ ?_
 rotate_left
 {exact zcj_139}
 refine one_ (i := 8) (N := some 24) #[true, true, true, true, true, true, true, true, true, true, true, true, true, true, true, false, false] rfl rfl (one_of HT_.out (by kernel_rfl)) (by decide) (fun K hK => ?_)
 have hcv12 := own_string (P := Tryd.prog) Tryd.underlying28 Tryd.underlying5 Tryd.underlying9 (Kd.own_of_R HO259.out)
 refine value_ (w1 := ?_) (v := ?_) (by rfl) rfl ?_ ?_
 rotate_left 2
 {
 go_simp
 constructor
 {rfl}
 {rfl}
 }
 clear hcv12
 refine hK.out _ _ ⟨((HB.out.cell (World.block_lt_of_cell? w _ hw256_0)).trans hw256_0), ((HB.out.cell (World.block_lt_of_cell? w _ hw256_1)).trans hw256_1), ((HB.out.cell (World.block_lt_of_cell? w _ hw256_2)).trans hw256_2), ((HB.out.cell (World.block_lt_of_cell? w _ hw260_0)).trans hw260_0), ((HB.out.cell (World.block_lt_of_cell? w _ hw260_1)).trans hw260_1), ((HB.out.cell (World.block_lt_of_cell? w _ hw260_2)).trans hw260_2)⟩ (fun hHeld => ?_)
 clear hK K
 refine norm_ (a' := ?_) ?_ ?_
 rotate_left
 {exact zcj_95}
 exact norm_ (by simp only [putAll, Act.put, List.setIfInBounds_toArray, List.set_cons_zero, List.set_cons_succ]) (hCont (v258) _ ⟨hHeld, zcj_96, zcj_5⟩)
 }
 }
 rintro v258 w13 ⟨hS_, h0_, h1_⟩
 have n0_ : Aside0 (Kd.R (Kd.int .u8) 5 w13 w.heap.size (fun _ => True) v258 y257) := ⟨h0_⟩
 have n1_ : Aside0 (Below w.heap.size w w13) := ⟨h1_⟩
 clear HB
 clear h0_ h1_
 have HO259 := n0_
 have HB := n1_
 clear n0_ n1_
 have hHeld : w13.cell? (ad255.add (((ji2)).toNat * 3)) = some (.int .i64 ((rd_T77 l0 (ji2)).f0)) ∧ w13.cell? ⟨(ad255.add (((ji2)).toNat * 3)).block, (ad255.add (((ji2)).toNat * 3)).off + 1, none⟩ = some (.int .i64 ((rd_T77 l0 (ji2)).f1)) ∧ w13.cell? ⟨(ad255.add (((ji2)).toNat * 3)).block, (ad255.add (((ji2)).toNat * 3)).off + 2, none⟩ = some (.int .i64 ((rd_T77 l0 (ji2)).f2)) ∧ w13.cell? (ad255.add (((ji2)).toNat * 3)) = some (.int .i64 ((rd_T77 l0 (ji2)).f0)) ∧ w13.cell? ⟨(ad255.add (((ji2)).toNat * 3)).block, (ad255.add (((ji2)).toNat * 3)).off + 1, none⟩ = some (.int .i64 ((rd_T77 l0 (ji2)).f1)) ∧ w13.cell? ⟨(ad255.add (((ji2)).toNat * 3)).block, (ad255.add (((ji2)).toNat * 3)).off + 2, none⟩ = some (.int .i64 ((rd_T77 l0 (ji2)).f2)) := hS_
 refine norm_ (a' := ?_) ?_ ?_
 rotate_left
 {exact zcj_33}
 refine pure_ (i := 15) (N := some 31) (v := ?_) (a' := ?_) #[true, true, true, true, true, true, true, true, true, true, true, true, true, true, true, true, false] rfl rfl (any_of HT_.out (by kernel_rfl)) (fun _ _ _ h => h) (Or.inl ⟨by rfl, ?_⟩) ?_ ?_
 rotate_left
 {
 intro w'
 go_simp
 with_reducible rfl
 }
 rotate_left
 {exact zcj_1}
 refine pure_ (i := 16) (N := some 2) (v := ?_) (a' := ?_) #[true, true, true, true, true, true, true, true, true, true, true, true, true, true, true, true, true] rfl rfl (any_of HT_.out (by kernel_rfl)) (fun _ _ _ h => h) (Or.inl ⟨by rfl, ?_⟩) ?_ ?_
 rotate_left
 {
 intro w'
 go_simp
 with_reducible rfl
 }
 rotate_left
 {exact zcj_1}
 refine done_ (done_of HT_.out (by kernel_rfl)) ?_
 try go_wp2
 go_ret
 exact ⟨by first | rfl | (simp [errW_none, errW_some] <;> rfl) | (simp only [← hji2]; first | rfl | (simp [errW_none, errW_some] <;> rfl)) | (simp [*, errW_none, errW_some] <;> rfl), zcj_5⟩
 }
 {
 rw [if_neg c7] at H
 exact absurd H (by simp)
 }
 }
 {
 rw [if_neg c5] at H
 have c5b0 : (((rd_T77 l0 (ji2)).f0) == 0) = false := beq_eq_false_iff_ne.mpr c5
 have c5b1 : (((rd_T77 l0 (ji2)).f0) != 0) = true := bne_iff_ne.mpr c5
 replace H := Option.bind_eq_some_iff.mp H
 obtain ⟨t262, A140, H⟩ := H
 try dsimp only at H
 have A14 := Aside0.mk A140
 clear A140
 by_cases c15 : 0 ≤ t262
 {
 rw [if_pos c15] at H
 have c15b0 := eq_true c15
 have c15b1 : decide (0 ≤ t262) = true := decide_eq_true c15
 clear c15
 by_cases c16 : t262 ≤ (l0.length : Int)
 {
 rw [if_pos c16] at H
 have c16b0 := eq_true c16
 have c16b1 : decide (t262 ≤ (l0.length : Int)) = true := decide_eq_true c16
 clear c16
 obtain ⟨y263, hy263⟩ : ∃ y_ : List (S77), y_ = (l0.take (t262 : Int).toNat) := ⟨_, rfl⟩
 replace H : ((spec_l3Text.f k y263).bind fun t267 => (if t262 ≤ (ji2) then (if (ji2) ≤ (l0.length : Int) then ((spec_l3Text.f k ((l0.take ((ji2) : Int).toNat).drop (t262 : Int).toNat)).bind fun t272 => (if ((rd_T77 l0 (ji2)).f0) = 2 then (if 0 ≤ (wrap64 ((ji2) - 1)) then (if (wrap64 ((ji2) - 1)) < (l0.length : Int) then (if ((rd_T77 l0 (wrap64 ((ji2) - 1))).f0) = 2 then (if 1 + t272.size ≤ 9223372036854775807 then (if ((⟨#[40]⟩ : ByteArray) ++ t272).size + 1 ≤ 9223372036854775807 then (if t267.size + 1 ≤ 9223372036854775807 then (if (t267 ++ (⟨#[124]⟩ : ByteArray)).size + (((⟨#[40]⟩ : ByteArray) ++ t272) ++ (⟨#[41]⟩ : ByteArray)).size ≤ 9223372036854775807 then (some ((t267 ++ (⟨#[124]⟩ : ByteArray)) ++ (((⟨#[40]⟩ : ByteArray) ++ t272) ++ (⟨#[41]⟩ : ByteArray)))) else (none)) else (none)) else (none)) else (none)) else (if t267.size + 1 ≤ 9223372036854775807 then (if (t267 ++ (⟨#[124]⟩ : ByteArray)).size + t272.size ≤ 9223372036854775807 then (some ((t267 ++ (⟨#[124]⟩ : ByteArray)) ++ t272)) else (none)) else (none))) else (none)) else (none)) else (if 0 ≤ (wrap64 (t262 - 1)) then (if (wrap64 (t262 - 1)) < (l0.length : Int) then (if ((rd_T77 l0 (wrap64 (t262 - 1))).f0) = 2 then (if 1 + t267.size ≤ 9223372036854775807 then (if ((⟨#[40]⟩ : ByteArray) ++ t267).size + 1 ≤ 9223372036854775807 then (if 0 ≤ (wrap64 ((ji2) - 1)) then (if (wrap64 ((ji2) - 1)) < (l0.length : Int) then (if ((rd_T77 l0 (wrap64 ((ji2) - 1))).f0) = 0 then (if (((⟨#[40]⟩ : ByteArray) ++ t267) ++ (⟨#[41]⟩ : ByteArray)).size + 1 ≤ 9223372036854775807 then (if ((((⟨#[40]⟩ : ByteArray) ++ t267) ++ (⟨#[41]⟩ : ByteArray)) ++ (⟨#[38]⟩ : ByteArray)).size + t272.size ≤ 9223372036854775807 then (some (((((⟨#[40]⟩ : ByteArray) ++ t267) ++ (⟨#[41]⟩ : ByteArray)) ++ (⟨#[38]⟩ : ByteArray)) ++ t272)) else (none)) else (none)) else (if 1 + t272.size ≤ 9223372036854775807 then (if ((⟨#[40]⟩ : ByteArray) ++ t272).size + 1 ≤ 9223372036854775807 then (if (((⟨#[40]⟩ : ByteArray) ++ t267) ++ (⟨#[41]⟩ : ByteArray)).size + 1 ≤ 9223372036854775807 then (if ((((⟨#[40]⟩ : ByteArray) ++ t267) ++ (⟨#[41]⟩ : ByteArray)) ++ (⟨#[38]⟩ : ByteArray)).size + (((⟨#[40]⟩ : ByteArray) ++ t272) ++ (⟨#[41]⟩ : ByteArray)).size ≤ 9223372036854775807 then (some (((((⟨#[40]⟩ : ByteArray) ++ t267) ++ (⟨#[41]⟩ : ByteArray)) ++ (⟨#[38]⟩ : ByteArray)) ++ (((⟨#[40]⟩ : ByteArray) ++ t272) ++ (⟨#[41]⟩ : ByteArray)))) else (none)) else (none)) else (none)) else (none))) else (none)) else (none)) else (none)) else (none)) else (if 0 ≤ (wrap64 ((ji2) - 1)) then (if (wrap64 ((ji2) - 1)) < (l0.length : Int) then (if ((rd_T77 l0 (wrap64 ((ji2) - 1))).f0) = 0 then (if t267.size + 1 ≤ 9223372036854775807 then (if (t267 ++ (⟨#[38]⟩ : ByteArray)).size + t272.size ≤ 9223372036854775807 then (some ((t267 ++ (⟨#[38]⟩ : ByteArray)) ++ t272)) else (none)) else (none)) else (if 1 + t272.size ≤ 9223372036854775807 then (if ((⟨#[40]⟩ : ByteArray) ++ t272).size + 1 ≤ 9223372036854775807 then (if t267.size + 1 ≤ 9223372036854775807 then (if (t267 ++ (⟨#[38]⟩ : ByteArray)).size + (((⟨#[40]⟩ : ByteArray) ++ t272) ++ (⟨#[41]⟩ : ByteArray)).size ≤ 9223372036854775807 then (some ((t267 ++ (⟨#[38]⟩ : ByteArray)) ++ (((⟨#[40]⟩ : ByteArray) ++ t272) ++ (⟨#[41]⟩ : ByteArray)))) else (none)) else (none)) else (none)) else (none))) else (none)) else (none))) else (none)) else (none)))) else (none)) else (none))) = some r := by first | (rw [hy263]; with_reducible exact H) | (have H2_ := (Option.bind_some _ _).symm.trans H; rw [hy263]; with_reducible exact H2_) | (have H2_ := (Option.bind_some _ _).symm.trans H; with_reducible exact H2_) | with_reducible exact H | (rw [hy263]; exact H) | exact H
 have Ny263 := Aside0.mk hy263
 clear hy263
 replace H := Option.bind_eq_some_iff.mp H
 obtain ⟨t267, A170, H⟩ := H
 try dsimp only at H
 have A17 := Aside0.mk A170
 clear A170
 have c18b0 := eq_true (of_decide_eq_true zcj_2 : 0 ≤ t262)
 by_cases c19 : t262 ≤ (ji2)
 {
 rw [if_pos c19] at H
 have c19b0 := eq_true c19
 have c19b1 : decide (t262 ≤ (ji2)) = true := decide_eq_true c19
 clear c19
 by_cases c20 : (ji2) ≤ (l0.length : Int)
 {
 rw [if_pos c20] at H
 have c20b0 := eq_true c20
 have c20b1 : decide ((ji2) ≤ (l0.length : Int)) = true := decide_eq_true c20
 clear c20
 obtain ⟨y268, hy268⟩ : ∃ y_ : List (S77), y_ = ((l0.take ((ji2) : Int).toNat).drop (t262 : Int).toNat) := ⟨_, rfl⟩
 replace H : ((spec_l3Text.f k y268).bind fun t272 => (if ((rd_T77 l0 (ji2)).f0) = 2 then (if 0 ≤ (wrap64 ((ji2) - 1)) then (if (wrap64 ((ji2) - 1)) < (l0.length : Int) then (if ((rd_T77 l0 (wrap64 ((ji2) - 1))).f0) = 2 then (if 1 + t272.size ≤ 9223372036854775807 then (if ((⟨#[40]⟩ : ByteArray) ++ t272).size + 1 ≤ 9223372036854775807 then (if t267.size + 1 ≤ 9223372036854775807 then (if (t267 ++ (⟨#[124]⟩ : ByteArray)).size + (((⟨#[40]⟩ : ByteArray) ++ t272) ++ (⟨#[41]⟩ : ByteArray)).size ≤ 9223372036854775807 then (some ((t267 ++ (⟨#[124]⟩ : ByteArray)) ++ (((⟨#[40]⟩ : ByteArray) ++ t272) ++ (⟨#[41]⟩ : ByteArray)))) else (none)) else (none)) else (none)) else (none)) else (if t267.size + 1 ≤ 9223372036854775807 then (if (t267 ++ (⟨#[124]⟩ : ByteArray)).size + t272.size ≤ 9223372036854775807 then (some ((t267 ++ (⟨#[124]⟩ : ByteArray)) ++ t272)) else (none)) else (none))) else (none)) else (none)) else (if 0 ≤ (wrap64 (t262 - 1)) then (if (wrap64 (t262 - 1)) < (l0.length : Int) then (if ((rd_T77 l0 (wrap64 (t262 - 1))).f0) = 2 then (if 1 + t267.size ≤ 9223372036854775807 then (if ((⟨#[40]⟩ : ByteArray) ++ t267).size + 1 ≤ 9223372036854775807 then (if 0 ≤ (wrap64 ((ji2) - 1)) then (if (wrap64 ((ji2) - 1)) < (l0.length : Int) then (if ((rd_T77 l0 (wrap64 ((ji2) - 1))).f0) = 0 then (if (((⟨#[40]⟩ : ByteArray) ++ t267) ++ (⟨#[41]⟩ : ByteArray)).size + 1 ≤ 9223372036854775807 then (if ((((⟨#[40]⟩ : ByteArray) ++ t267) ++ (⟨#[41]⟩ : ByteArray)) ++ (⟨#[38]⟩ : ByteArray)).size + t272.size ≤ 9223372036854775807 then (some (((((⟨#[40]⟩ : ByteArray) ++ t267) ++ (⟨#[41]⟩ : ByteArray)) ++ (⟨#[38]⟩ : ByteArray)) ++ t272)) else (none)) else (none)) else (if 1 + t272.size ≤ 9223372036854775807 then (if ((⟨#[40]⟩ : ByteArray) ++ t272).size + 1 ≤ 9223372036854775807 then (if (((⟨#[40]⟩ : ByteArray) ++ t267) ++ (⟨#[41]⟩ : ByteArray)).size + 1 ≤ 9223372036854775807 then (if ((((⟨#[40]⟩ : ByteArray) ++ t267) ++ (⟨#[41]⟩ : ByteArray)) ++ (⟨#[38]⟩ : ByteArray)).size + (((⟨#[40]⟩ : ByteArray) ++ t272) ++ (⟨#[41]⟩ : ByteArray)).size ≤ 9223372036854775807 then (some (((((⟨#[40]⟩ : ByteArray) ++ t267) ++ (⟨#[41]⟩ : ByteArray)) ++ (⟨#[38]⟩ : ByteArray)) ++ (((⟨#[40]⟩ : ByteArray) ++ t272) ++ (⟨#[41]⟩ : ByteArray)))) else (none)) else (none)) else (none)) else (none))) else (none)) else (none)) else (none)) else (none)) else (if 0 ≤ (wrap64 ((ji2) - 1)) then (if (wrap64 ((ji2) - 1)) < (l0.length : Int) then (if ((rd_T77 l0 (wrap64 ((ji2) - 1))).f0) = 0 then (if t267.size + 1 ≤ 9223372036854775807 then (if (t267 ++ (⟨#[38]⟩ : ByteArray)).size + t272.size ≤ 9223372036854775807 then (some ((t267 ++ (⟨#[38]⟩ : ByteArray)) ++ t272)) else (none)) else (none)) else (if 1 + t272.size ≤ 9223372036854775807 then (if ((⟨#[40]⟩ : ByteArray) ++ t272).size + 1 ≤ 9223372036854775807 then (if t267.size + 1 ≤ 9223372036854775807 then (if (t267 ++ (⟨#[38]⟩ : ByteArray)).size + (((⟨#[40]⟩ : ByteArray) ++ t272) ++ (⟨#[41]⟩ : ByteArray)).size ≤ 9223372036854775807 then (some ((t267 ++ (⟨#[38]⟩ : ByteArray)) ++ (((⟨#[40]⟩ : ByteArray) ++ t272) ++ (⟨#[41]⟩ : ByteArray)))) else (none)) else (none)) else (none)) else (none))) else (none)) else (none))) else (none)) else (none)))) = some r := by first | (rw [hy268]; with_reducible exact H) | (have H2_ := (Option.bind_some _ _).symm.trans H; rw [hy268]; with_reducible exact H2_) | (have H2_ := (Option.bind_some _ _).symm.trans H; with_reducible exact H2_) | with_reducible exact H | (rw [hy268]; exact H) | exact H
 have Ny268 := Aside0.mk hy268
 clear hy268
 replace H := Option.bind_eq_some_iff.mp H
 obtain ⟨t272, A210, H⟩ := H
 try dsimp only at H
 have A21 := Aside0.mk A210
 clear A210
 by_cases c22 : ((rd_T77 l0 (ji2)).f0) = 2
 {
 rw [if_pos c22] at H
 have c22b0 : (((rd_T77 l0 (ji2)).f0) == 2) = true := beq_iff_eq.mpr c22
 have c22b1 : (((rd_T77 l0 (ji2)).f0) != 2) = false := bne_eq_false_iff_eq.mpr c22
 clear c22
 obtain ⟨ji23, hji23⟩ : ∃ j_ : Int, (wrap64 ((ji2) - 1)) = j_ := ⟨_, rfl⟩
 replace H : (if 0 ≤ (ji23) then (if (ji23) < (l0.length : Int) then (if ((rd_T77 l0 (ji23)).f0) = 2 then (if 1 + t272.size ≤ 9223372036854775807 then (if ((⟨#[40]⟩ : ByteArray) ++ t272).size + 1 ≤ 9223372036854775807 then (if t267.size + 1 ≤ 9223372036854775807 then (if (t267 ++ (⟨#[124]⟩ : ByteArray)).size + (((⟨#[40]⟩ : ByteArray) ++ t272) ++ (⟨#[41]⟩ : ByteArray)).size ≤ 9223372036854775807 then (some ((t267 ++ (⟨#[124]⟩ : ByteArray)) ++ (((⟨#[40]⟩ : ByteArray) ++ t272) ++ (⟨#[41]⟩ : ByteArray)))) else (none)) else (none)) else (none)) else (none)) else (if t267.size + 1 ≤ 9223372036854775807 then (if (t267 ++ (⟨#[124]⟩ : ByteArray)).size + t272.size ≤ 9223372036854775807 then (some ((t267 ++ (⟨#[124]⟩ : ByteArray)) ++ t272)) else (none)) else (none))) else (none)) else (none)) = some r := by first | (rw [hji23] at H; exact H) | (simp only [hji23] at H ⊢; exact H)
 (try rw [hji23] at A14)
 (try rw [hji23] at A17)
 (try rw [hji23] at A21)
 have hji23w : (IntKind.i64.wrap ((ji2) - 1)) = ji23 := (i64_w _).trans hji23
 by_cases c24 : 0 ≤ (ji23)
 {
 rw [if_pos c24] at H
 have c24b0 : decide (0 ≤ (ji23)) = true := decide_eq_true c24
 clear c24
 by_cases c25 : (ji23) < (l0.length : Int)
 {
 rw [if_pos c25] at H
 have c25b0 : decide ((ji23) < (l0.length : Int)) = true := decide_eq_true c25
 clear c25
 by_cases c26 : ((rd_T77 l0 (ji23)).f0) = 2
 {
 rw [if_pos c26] at H
 have c26b0 : (((rd_T77 l0 (ji23)).f0) == 2) = true := beq_iff_eq.mpr c26
 have c26b1 : (((rd_T77 l0 (ji23)).f0) != 2) = false := bne_eq_false_iff_eq.mpr c26
 clear c26
 by_cases c27 : 1 + t272.size ≤ 9223372036854775807
 {
 rw [if_pos c27] at H
 have c27b0 := eq_true c27
 have c27b1 : decide (1 + t272.size ≤ 9223372036854775807) = true := decide_eq_true c27
 try have c27b2 : (9223372036854775807 < 1 + t272.size) = False := eq_false (Nat.not_lt.2 c27)
 by_cases c28 : ((⟨#[40]⟩ : ByteArray) ++ t272).size + 1 ≤ 9223372036854775807
 {
 rw [if_pos c28] at H
 have c28z : 1 + t272.size + 1 ≤ 9223372036854775807 := by{
 have h_ := c28
 simp only [ByteArray.size_append] at h_
 exact h_
 }
 have c28y : (9223372036854775807 < 1 + t272.size + 1) = False := eq_false (Nat.not_lt.2 c28z)
 have c28b0 := eq_true c28
 have c28b1 : decide (((⟨#[40]⟩ : ByteArray) ++ t272).size + 1 ≤ 9223372036854775807) = true := decide_eq_true c28
 try have c28b2 : (9223372036854775807 < ((⟨#[40]⟩ : ByteArray) ++ t272).size + 1) = False := eq_false (Nat.not_lt.2 c28)
 by_cases c29 : t267.size + 1 ≤ 9223372036854775807
 {
 rw [if_pos c29] at H
 have c29b0 := eq_true c29
 have c29b1 : decide (t267.size + 1 ≤ 9223372036854775807) = true := decide_eq_true c29
 try have c29b2 : (9223372036854775807 < t267.size + 1) = False := eq_false (Nat.not_lt.2 c29)
 by_cases c30 : (t267 ++ (⟨#[124]⟩ : ByteArray)).size + (((⟨#[40]⟩ : ByteArray) ++ t272) ++ (⟨#[41]⟩ : ByteArray)).size ≤ 9223372036854775807
 {
 rw [if_pos c30] at H
 have c30z : t267.size + 1 + (1 + t272.size + 1) ≤ 9223372036854775807 := by{
 have h_ := c30
 simp only [ByteArray.size_append] at h_
 exact h_
 }
 have c30y : (9223372036854775807 < t267.size + 1 + (1 + t272.size + 1)) = False := eq_false (Nat.not_lt.2 c30z)
 have c30b0 := eq_true c30
 have c30b1 : decide ((t267 ++ (⟨#[124]⟩ : ByteArray)).size + (((⟨#[40]⟩ : ByteArray) ++ t272) ++ (⟨#[41]⟩ : ByteArray)).size ≤ 9223372036854775807) = true := decide_eq_true c30
 try have c30b2 : (9223372036854775807 < (t267 ++ (⟨#[124]⟩ : ByteArray)).size + (((⟨#[40]⟩ : ByteArray) ++ t272) ++ (⟨#[41]⟩ : ByteArray)).size) = False := eq_false (Nat.not_lt.2 c30)
 obtain rfl := Option.some.inj H
 have p255 : 0 ≤ ((ji2) : Int) := of_decide_eq_true zcj_2
 have q255 : (ji2) < (l0.length : Int) := of_decide_eq_true zcj_2
 obtain ⟨ad255, e255, hx255_0, hx255_1, hx255_2⟩ := at_T77 HR0.out (ji2) p255 q255
 cases e255
 replace p255 := eq_true p255
 replace q255 := eq_true q255
 go_enter Tryd.func53, Tryd.ntmps53
 go_wp2_with (first | ((with_reducible refine gate_callee (f := 62) rfl ?_); refine goesL_ (some 35) rfl rfl Tryd.func62 (by kernel_rfl) rfl #[.slice (some ad255) l0.length c0, .int .i64 ji23] rfl zcj_140 ?_; (with_reducible refine (spec_l3Starts.calls k _ _ l0 ji23 t262 _ ?side1 ?side2 A14.out).mono ?_); (case side1 => exact zcj_45); (case side2 => exact HC0.out); rintro e w' ⟨rfl, ⟨nd, rfl⟩⟩; refine ⟨_, rfl, ?_⟩; have q31 : (t262 : Int) ≤ ((l0.length : Int) : Int) := of_decide_eq_true zcj_2; obtain ⟨i031, hi031, _, hsz31, _⟩ := info_parts info77; have hroom31 : l0.length ≤ c0 := HC0.out; have hC31 : Kd.C k77 _ (some ad255) l0.length l0 := HR0.out; have hcut31 := cut_to (P := Tryd.prog) 65 77 .i64 Tryd.underlying65 hi031 (some ad255) l0.length c0 t262 (of_decide_eq_true zcj_2) q31 hroom31; have hr31 := Kd.C_take (m := (t262 : Int).toNat) hC31 (by omega); have hy31 : y263.length = (t262 : Int).toNat := zcj_69; rw [← Ny263.out] at hr31; rw [← hy31] at hcut31; have HR266 := Aside0.mk hr31; have HC266 := Aside0.mk (show y263.length ≤ c0 from by omega); clear hr31 hC31 hroom31 hi031 hsz31; have KY31 := Aside0.mk hy31; clear hy31; replace q31 := eq_true q31) | ((with_reducible refine gate_callee (f := 53) rfl ?_); refine goesL_ (some 39) rfl rfl Tryd.func53 (by kernel_rfl) rfl #[.slice (some ad255) y263.length c0] rfl zcj_3 ?_; (with_reducible refine (ih k (by omega) _ _ y263 t267 _ ?side1 ?side2 A17.out).mono ?_); (case side1 => exact zcj_70); (case side2 => exact HC266.out); rintro e w32 ⟨rfl, hb⟩; refine ⟨_, rfl, ?_⟩; have n0_ := Aside0.mk (below_step zcj_5 hb); clear HB; have HB := n0_; clear n0_; (try clear hb); (try clear hb2); (try clear hk); (try clear hi); have q33 : ((ji2) : Int) ≤ ((l0.length : Int) : Int) := of_decide_eq_true zcj_2; obtain ⟨i033, hi033, _, hsz33, _⟩ := info_parts info77; have hroom33 : l0.length ≤ c0 := HC0.out; have hC33 : Kd.C k77 _ (some ad255) l0.length l0 := HR0.out; have ql33 : (t262 : Int) ≤ ((ji2) : Int) := of_decide_eq_true zcj_2; have q033 : (0 : Int) ≤ (t262 : Int) := of_decide_eq_true zcj_2; have hcut33 := cut_mid (P := Tryd.prog) 65 77 .i64 .i64 Tryd.underlying65 hi033 3 hsz33 (some ad255) l0.length c0 t262 (ji2) q033 ql33 q33 hroom33; have hr33 := Kd.C_mid (lo := (t262 : Int).toNat) (hi := ((ji2) : Int).toNat) (c := c0) hC33 (by omega) (by omega) hroom33; obtain ⟨A33, hA33⟩ : ∃ A1, A1 = (if c0 = (t262 : Int).toNat then (some ad255) else ((some ad255) : Option Addr).map (·.add ((t262 : Int).toNat * 3))) := ⟨_, rfl⟩; obtain ⟨c33, hc33⟩ : ∃ c1, c1 = c0 - (t262 : Int).toNat := ⟨_, rfl⟩; have hy33 : y268.length = ((ji2) : Int).toNat - (t262 : Int).toNat := zcj_71; rw [show ((l0).take ((ji2) : Int).toNat).drop (t262 : Int).toNat = y268 from Ny268.out.symm] at hr33; replace hr33 : Kd.C k77 _ A33 y268.length y268 := (by rw [hA33]; exact hr33); rw [← hy33, ← hA33, ← hc33] at hcut33; have HR271 := Aside0.mk hr33; have HC271 := Aside0.mk (show y268.length ≤ c33 from by rw [hy33, hc33]; exact Nat.sub_le_sub_right (Nat.le_trans (by omega) hroom33) _); clear hr33 hC33 hroom33 hi033 hsz33 hc33; have KY33 := Aside0.mk hy33; have KA33 := Aside0.mk hA33; clear hy33 hA33; replace q33 := eq_true q33) | ((with_reducible refine gate_callee (f := 53) rfl ?_); refine goesL_ (some 44) rfl rfl Tryd.func53 (by kernel_rfl) rfl #[.slice A33 y268.length c33] rfl zcj_3 ?_; (with_reducible refine (ih k (by omega) _ _ y268 t272 _ ?side1 ?side2 A21.out).mono ?_); (case side1 => exact zcj_72); (case side2 => exact HC271.out); rintro e w34 ⟨rfl, hb⟩; refine ⟨_, rfl, ?_⟩; have n0_ := Aside0.mk (below_step zcj_5 hb); clear HB; have HB := n0_; clear n0_; (try clear hb); (try clear hb2); (try clear hk); (try clear hi); have p273 : 0 ≤ ((ji2) : Int) := of_decide_eq_true zcj_2; have q273 : (ji2) < (l0.length : Int) := of_decide_eq_true zcj_2; obtain ⟨ad273, e273, hx273_0, hx273_1, hx273_2⟩ := at_T77 HR0.out (ji2) p273 q273; obtain rfl : ad255 = ad273 := (by injection e273); replace hx273_0 := (HB.out.cell (World.block_lt_of_cell? w _ hx273_0)).trans hx273_0; replace hx273_1 := (HB.out.cell (World.block_lt_of_cell? w _ hx273_1)).trans hx273_1; replace hx273_2 := (HB.out.cell (World.block_lt_of_cell? w _ hx273_2)).trans hx273_2; replace p273 := eq_true p273; replace q273 := eq_true q273; have p274 : 0 ≤ ((ji23) : Int) := of_decide_eq_true zcj_2; have q274 : (ji23) < (l0.length : Int) := of_decide_eq_true zcj_2; obtain ⟨ad274, e274, hx274_0, hx274_1, hx274_2⟩ := at_T77 HR0.out (ji23) p274 q274; obtain rfl : ad255 = ad274 := (by injection e274); replace hx274_0 := (HB.out.cell (World.block_lt_of_cell? w _ hx274_0)).trans hx274_0; replace hx274_1 := (HB.out.cell (World.block_lt_of_cell? w _ hx274_1)).trans hx274_1; replace hx274_2 := (HB.out.cell (World.block_lt_of_cell? w _ hx274_2)).trans hx274_2; replace p274 := eq_true p274; replace q274 := eq_true q274))
 go_ret
 exact ⟨zcj_141, zcj_5⟩
 }
 {
 rw [if_neg c30] at H
 exact absurd H (by simp)
 }
 }
 {
 rw [if_neg c29] at H
 exact absurd H (by simp)
 }
 }
 {
 rw [if_neg c28] at H
 exact absurd H (by simp)
 }
 }
 {
 rw [if_neg c27] at H
 exact absurd H (by simp)
 }
 }
 {
 rw [if_neg c26] at H
 have c26b0 : (((rd_T77 l0 (ji23)).f0) == 2) = false := beq_eq_false_iff_ne.mpr c26
 have c26b1 : (((rd_T77 l0 (ji23)).f0) != 2) = true := bne_iff_ne.mpr c26
 by_cases c35 : t267.size + 1 ≤ 9223372036854775807
 {
 rw [if_pos c35] at H
 have c35b0 := eq_true c35
 have c35b1 : decide (t267.size + 1 ≤ 9223372036854775807) = true := decide_eq_true c35
 try have c35b2 : (9223372036854775807 < t267.size + 1) = False := eq_false (Nat.not_lt.2 c35)
 by_cases c36 : (t267 ++ (⟨#[124]⟩ : ByteArray)).size + t272.size ≤ 9223372036854775807
 {
 rw [if_pos c36] at H
 have c36z : t267.size + 1 + t272.size ≤ 9223372036854775807 := by{
 have h_ := c36
 simp only [ByteArray.size_append] at h_
 exact h_
 }
 have c36y : (9223372036854775807 < t267.size + 1 + t272.size) = False := eq_false (Nat.not_lt.2 c36z)
 have c36b0 := eq_true c36
 have c36b1 : decide ((t267 ++ (⟨#[124]⟩ : ByteArray)).size + t272.size ≤ 9223372036854775807) = true := decide_eq_true c36
 try have c36b2 : (9223372036854775807 < (t267 ++ (⟨#[124]⟩ : ByteArray)).size + t272.size) = False := eq_false (Nat.not_lt.2 c36)
 obtain rfl := Option.some.inj H
 have p255 : 0 ≤ ((ji2) : Int) := of_decide_eq_true zcj_2
 have q255 : (ji2) < (l0.length : Int) := of_decide_eq_true zcj_2
 obtain ⟨ad255, e255, hx255_0, hx255_1, hx255_2⟩ := at_T77 HR0.out (ji2) p255 q255
 cases e255
 replace p255 := eq_true p255
 replace q255 := eq_true q255
 go_enter Tryd.func53, Tryd.ntmps53
 go_wp2_with (first | ((with_reducible refine gate_callee (f := 62) rfl ?_); refine goesL_ (some 35) rfl rfl Tryd.func62 (by kernel_rfl) rfl #[.slice (some ad255) l0.length c0, .int .i64 ji23] rfl zcj_140 ?_; (with_reducible refine (spec_l3Starts.calls k _ _ l0 ji23 t262 _ ?side1 ?side2 A14.out).mono ?_); (case side1 => exact zcj_45); (case side2 => exact HC0.out); rintro e w' ⟨rfl, ⟨nd, rfl⟩⟩; refine ⟨_, rfl, ?_⟩; have q37 : (t262 : Int) ≤ ((l0.length : Int) : Int) := of_decide_eq_true zcj_2; obtain ⟨i037, hi037, _, hsz37, _⟩ := info_parts info77; have hroom37 : l0.length ≤ c0 := HC0.out; have hC37 : Kd.C k77 _ (some ad255) l0.length l0 := HR0.out; have hcut37 := cut_to (P := Tryd.prog) 65 77 .i64 Tryd.underlying65 hi037 (some ad255) l0.length c0 t262 (of_decide_eq_true zcj_2) q37 hroom37; have hr37 := Kd.C_take (m := (t262 : Int).toNat) hC37 (by omega); have hy37 : y263.length = (t262 : Int).toNat := zcj_69; rw [← Ny263.out] at hr37; rw [← hy37] at hcut37; have HR266 := Aside0.mk hr37; have HC266 := Aside0.mk (show y263.length ≤ c0 from by omega); clear hr37 hC37 hroom37 hi037 hsz37; have KY37 := Aside0.mk hy37; clear hy37; replace q37 := eq_true q37) | ((with_reducible refine gate_callee (f := 53) rfl ?_); refine goesL_ (some 39) rfl rfl Tryd.func53 (by kernel_rfl) rfl #[.slice (some ad255) y263.length c0] rfl zcj_3 ?_; (with_reducible refine (ih k (by omega) _ _ y263 t267 _ ?side1 ?side2 A17.out).mono ?_); (case side1 => exact zcj_70); (case side2 => exact HC266.out); rintro e w38 ⟨rfl, hb⟩; refine ⟨_, rfl, ?_⟩; have n0_ := Aside0.mk (below_step zcj_5 hb); clear HB; have HB := n0_; clear n0_; (try clear hb); (try clear hb2); (try clear hk); (try clear hi); have q39 : ((ji2) : Int) ≤ ((l0.length : Int) : Int) := of_decide_eq_true zcj_2; obtain ⟨i039, hi039, _, hsz39, _⟩ := info_parts info77; have hroom39 : l0.length ≤ c0 := HC0.out; have hC39 : Kd.C k77 _ (some ad255) l0.length l0 := HR0.out; have ql39 : (t262 : Int) ≤ ((ji2) : Int) := of_decide_eq_true zcj_2; have q039 : (0 : Int) ≤ (t262 : Int) := of_decide_eq_true zcj_2; have hcut39 := cut_mid (P := Tryd.prog) 65 77 .i64 .i64 Tryd.underlying65 hi039 3 hsz39 (some ad255) l0.length c0 t262 (ji2) q039 ql39 q39 hroom39; have hr39 := Kd.C_mid (lo := (t262 : Int).toNat) (hi := ((ji2) : Int).toNat) (c := c0) hC39 (by omega) (by omega) hroom39; obtain ⟨A39, hA39⟩ : ∃ A1, A1 = (if c0 = (t262 : Int).toNat then (some ad255) else ((some ad255) : Option Addr).map (·.add ((t262 : Int).toNat * 3))) := ⟨_, rfl⟩; obtain ⟨c39, hc39⟩ : ∃ c1, c1 = c0 - (t262 : Int).toNat := ⟨_, rfl⟩; have hy39 : y268.length = ((ji2) : Int).toNat - (t262 : Int).toNat := zcj_71; rw [show ((l0).take ((ji2) : Int).toNat).drop (t262 : Int).toNat = y268 from Ny268.out.symm] at hr39; replace hr39 : Kd.C k77 _ A39 y268.length y268 := (by rw [hA39]; exact hr39); rw [← hy39, ← hA39, ← hc39] at hcut39; have HR271 := Aside0.mk hr39; have HC271 := Aside0.mk (show y268.length ≤ c39 from by rw [hy39, hc39]; exact Nat.sub_le_sub_right (Nat.le_trans (by omega) hroom39) _); clear hr39 hC39 hroom39 hi039 hsz39 hc39; have KY39 := Aside0.mk hy39; have KA39 := Aside0.mk hA39; clear hy39 hA39; replace q39 := eq_true q39) | ((with_reducible refine gate_callee (f := 53) rfl ?_); refine goesL_ (some 44) rfl rfl Tryd.func53 (by kernel_rfl) rfl #[.slice A39 y268.length c39] rfl zcj_3 ?_; (with_reducible refine (ih k (by omega) _ _ y268 t272 _ ?side1 ?side2 A21.out).mono ?_); (case side1 => exact zcj_72); (case side2 => exact HC271.out); rintro e w40 ⟨rfl, hb⟩; refine ⟨_, rfl, ?_⟩; have n0_ := Aside0.mk (below_step zcj_5 hb); clear HB; have HB := n0_; clear n0_; (try clear hb); (try clear hb2); (try clear hk); (try clear hi); have p273 : 0 ≤ ((ji2) : Int) := of_decide_eq_true zcj_2; have q273 : (ji2) < (l0.length : Int) := of_decide_eq_true zcj_2; obtain ⟨ad273, e273, hx273_0, hx273_1, hx273_2⟩ := at_T77 HR0.out (ji2) p273 q273; obtain rfl : ad255 = ad273 := (by injection e273); replace hx273_0 := (HB.out.cell (World.block_lt_of_cell? w _ hx273_0)).trans hx273_0; replace hx273_1 := (HB.out.cell (World.block_lt_of_cell? w _ hx273_1)).trans hx273_1; replace hx273_2 := (HB.out.cell (World.block_lt_of_cell? w _ hx273_2)).trans hx273_2; replace p273 := eq_true p273; replace q273 := eq_true q273; have p274 : 0 ≤ ((ji23) : Int) := of_decide_eq_true zcj_2; have q274 : (ji23) < (l0.length : Int) := of_decide_eq_true zcj_2; obtain ⟨ad274, e274, hx274_0, hx274_1, hx274_2⟩ := at_T77 HR0.out (ji23) p274 q274; obtain rfl : ad255 = ad274 := (by injection e274); replace hx274_0 := (HB.out.cell (World.block_lt_of_cell? w _ hx274_0)).trans hx274_0; replace hx274_1 := (HB.out.cell (World.block_lt_of_cell? w _ hx274_1)).trans hx274_1; replace hx274_2 := (HB.out.cell (World.block_lt_of_cell? w _ hx274_2)).trans hx274_2; replace p274 := eq_true p274; replace q274 := eq_true q274))
 go_ret
 exact ⟨zcj_141, zcj_5⟩
 }
 {
 rw [if_neg c36] at H
 exact absurd H (by simp)
 }
 }
 {
 rw [if_neg c35] at H
 exact absurd H (by simp)
 }
 }
 }
 {
 rw [if_neg c25] at H
 exact absurd H (by simp)
 }
 }
 {
 rw [if_neg c24] at H
 exact absurd H (by simp)
 }
 }
 {
 rw [if_neg c22] at H
 have c22b0 : (((rd_T77 l0 (ji2)).f0) == 2) = false := beq_eq_false_iff_ne.mpr c22
 have c22b1 : (((rd_T77 l0 (ji2)).f0) != 2) = true := bne_iff_ne.mpr c22
 obtain ⟨ji41, hji41⟩ : ∃ j_ : Int, (wrap64 (t262 - 1)) = j_ := ⟨_, rfl⟩
 replace H : (if 0 ≤ (ji41) then (if (ji41) < (l0.length : Int) then (if ((rd_T77 l0 (ji41)).f0) = 2 then (if 1 + t267.size ≤ 9223372036854775807 then (if ((⟨#[40]⟩ : ByteArray) ++ t267).size + 1 ≤ 9223372036854775807 then (if 0 ≤ (wrap64 ((ji2) - 1)) then (if (wrap64 ((ji2) - 1)) < (l0.length : Int) then (if ((rd_T77 l0 (wrap64 ((ji2) - 1))).f0) = 0 then (if (((⟨#[40]⟩ : ByteArray) ++ t267) ++ (⟨#[41]⟩ : ByteArray)).size + 1 ≤ 9223372036854775807 then (if ((((⟨#[40]⟩ : ByteArray) ++ t267) ++ (⟨#[41]⟩ : ByteArray)) ++ (⟨#[38]⟩ : ByteArray)).size + t272.size ≤ 9223372036854775807 then (some (((((⟨#[40]⟩ : ByteArray) ++ t267) ++ (⟨#[41]⟩ : ByteArray)) ++ (⟨#[38]⟩ : ByteArray)) ++ t272)) else (none)) else (none)) else (if 1 + t272.size ≤ 9223372036854775807 then (if ((⟨#[40]⟩ : ByteArray) ++ t272).size + 1 ≤ 9223372036854775807 then (if (((⟨#[40]⟩ : ByteArray) ++ t267) ++ (⟨#[41]⟩ : ByteArray)).size + 1 ≤ 9223372036854775807 then (if ((((⟨#[40]⟩ : ByteArray) ++ t267) ++ (⟨#[41]⟩ : ByteArray)) ++ (⟨#[38]⟩ : ByteArray)).size + (((⟨#[40]⟩ : ByteArray) ++ t272) ++ (⟨#[41]⟩ : ByteArray)).size ≤ 9223372036854775807 then (some (((((⟨#[40]⟩ : ByteArray) ++ t267) ++ (⟨#[41]⟩ : ByteArray)) ++ (⟨#[38]⟩ : ByteArray)) ++ (((⟨#[40]⟩ : ByteArray) ++ t272) ++ (⟨#[41]⟩ : ByteArray)))) else (none)) else (none)) else (none)) else (none))) else (none)) else (none)) else (none)) else (none)) else (if 0 ≤ (wrap64 ((ji2) - 1)) then (if (wrap64 ((ji2) - 1)) < (l0.length : Int) then (if ((rd_T77 l0 (wrap64 ((ji2) - 1))).f0) = 0 then (if t267.size + 1 ≤ 9223372036854775807 then (if (t267 ++ (⟨#[38]⟩ : ByteArray)).size + t272.size ≤ 9223372036854775807 then (some ((t267 ++ (⟨#[38]⟩ : ByteArray)) ++ t272)) else (none)) else (none)) else (if 1 + t272.size ≤ 9223372036854775807 then (if ((⟨#[40]⟩ : ByteArray) ++ t272).size + 1 ≤ 9223372036854775807 then (if t267.size + 1 ≤ 9223372036854775807 then (if (t267 ++ (⟨#[38]⟩ : ByteArray)).size + (((⟨#[40]⟩ : ByteArray) ++ t272) ++ (⟨#[41]⟩ : ByteArray)).size ≤ 9223372036854775807 then (some ((t267 ++ (⟨#[38]⟩ : ByteArray)) ++ (((⟨#[40]⟩ : ByteArray) ++ t272) ++ (⟨#[41]⟩ : ByteArray)))) else (none)) else (none)) else (none)) else (none))) else (none)) else (none))) else (none)) else (none)) = some r := by first | (rw [hji41] at H; exact H) | (simp only [hji41] at H ⊢; exact H)
 (try rw [hji41] at A14)
 (try rw [hji41] at A17)
 (try rw [hji41] at A21)
 have hji41w : (IntKind.i64.wrap (t262 - 1)) = ji41 := (i64_w _).trans hji41
 by_cases c42 : 0 ≤ (ji41)
 {
 rw [if_pos c42] at H
 have c42b0 : decide (0 ≤ (ji41)) = true := decide_eq_true c42
 clear c42
 by_cases c43 : (ji41) < (l0.length : Int)
 {
 rw [if_pos c43] at H
 have c43b0 : decide ((ji41) < (l0.length : Int)) = true := decide_eq_true c43
 clear c43
 by_cases c44 : ((rd_T77 l0 (ji41)).f0) = 2
 {
 rw [if_pos c44] at H
 have c44b0 : (((rd_T77 l0 (ji41)).f0) == 2) = true := beq_iff_eq.mpr c44
 have c44b1 : (((rd_T77 l0 (ji41)).f0) != 2) = false := bne_eq_false_iff_eq.mpr c44
 clear c44
 by_cases c45 : 1 + t267.size ≤ 9223372036854775807
 {
 rw [if_pos c45] at H
 have c45b0 := eq_true c45
 have c45b1 : decide (1 + t267.size ≤ 9223372036854775807) = true := decide_eq_true c45
 try have c45b2 : (9223372036854775807 < 1 + t267.size) = False := eq_false (Nat.not_lt.2 c45)
 by_cases c46 : ((⟨#[40]⟩ : ByteArray) ++ t267).size + 1 ≤ 9223372036854775807
 {
 rw [if_pos c46] at H
 have c46z : 1 + t267.size + 1 ≤ 9223372036854775807 := by{
 have h_ := c46
 simp only [ByteArray.size_append] at h_
 exact h_
 }
 have c46y : (9223372036854775807 < 1 + t267.size + 1) = False := eq_false (Nat.not_lt.2 c46z)
 have c46b0 := eq_true c46
 have c46b1 : decide (((⟨#[40]⟩ : ByteArray) ++ t267).size + 1 ≤ 9223372036854775807) = true := decide_eq_true c46
 try have c46b2 : (9223372036854775807 < ((⟨#[40]⟩ : ByteArray) ++ t267).size + 1) = False := eq_false (Nat.not_lt.2 c46)
 obtain ⟨ji47, hji47⟩ : ∃ j_ : Int, (wrap64 ((ji2) - 1)) = j_ := ⟨_, rfl⟩
 replace H : (if 0 ≤ (ji47) then (if (ji47) < (l0.length : Int) then (if ((rd_T77 l0 (ji47)).f0) = 0 then (if (((⟨#[40]⟩ : ByteArray) ++ t267) ++ (⟨#[41]⟩ : ByteArray)).size + 1 ≤ 9223372036854775807 then (if ((((⟨#[40]⟩ : ByteArray) ++ t267) ++ (⟨#[41]⟩ : ByteArray)) ++ (⟨#[38]⟩ : ByteArray)).size + t272.size ≤ 9223372036854775807 then (some (((((⟨#[40]⟩ : ByteArray) ++ t267) ++ (⟨#[41]⟩ : ByteArray)) ++ (⟨#[38]⟩ : ByteArray)) ++ t272)) else (none)) else (none)) else (if 1 + t272.size ≤ 9223372036854775807 then (if ((⟨#[40]⟩ : ByteArray) ++ t272).size + 1 ≤ 9223372036854775807 then (if (((⟨#[40]⟩ : ByteArray) ++ t267) ++ (⟨#[41]⟩ : ByteArray)).size + 1 ≤ 9223372036854775807 then (if ((((⟨#[40]⟩ : ByteArray) ++ t267) ++ (⟨#[41]⟩ : ByteArray)) ++ (⟨#[38]⟩ : ByteArray)).size + (((⟨#[40]⟩ : ByteArray) ++ t272) ++ (⟨#[41]⟩ : ByteArray)).size ≤ 9223372036854775807 then (some (((((⟨#[40]⟩ : ByteArray) ++ t267) ++ (⟨#[41]⟩ : ByteArray)) ++ (⟨#[38]⟩ : ByteArray)) ++ (((⟨#[40]⟩ : ByteArray) ++ t272) ++ (⟨#[41]⟩ : ByteArray)))) else (none)) else (none)) else (none)) else (none))) else (none)) else (none)) = some r := by first | (rw [hji47] at H; exact H) | (simp only [hji47] at H ⊢; exact H)
 (try rw [hji47] at A14)
 (try rw [hji47] at A17)
 (try rw [hji47] at A21)
 have hji47w : (IntKind.i64.wrap ((ji2) - 1)) = ji47 := (i64_w _).trans hji47
 by_cases c48 : 0 ≤ (ji47)
 {
 rw [if_pos c48] at H
 have c48b0 : decide (0 ≤ (ji47)) = true := decide_eq_true c48
 clear c48
 by_cases c49 : (ji47) < (l0.length : Int)
 {
 rw [if_pos c49] at H
 have c49b0 : decide ((ji47) < (l0.length : Int)) = true := decide_eq_true c49
 clear c49
 by_cases c50 : ((rd_T77 l0 (ji47)).f0) = 0
 {
 rw [if_pos c50] at H
 have c50b0 : (((rd_T77 l0 (ji47)).f0) == 0) = true := beq_iff_eq.mpr c50
 have c50b1 : (((rd_T77 l0 (ji47)).f0) != 0) = false := bne_eq_false_iff_eq.mpr c50
 clear c50
 by_cases c51 : (((⟨#[40]⟩ : ByteArray) ++ t267) ++ (⟨#[41]⟩ : ByteArray)).size + 1 ≤ 9223372036854775807
 {
 rw [if_pos c51] at H
 have c51z : 1 + t267.size + 1 + 1 ≤ 9223372036854775807 := by{
 have h_ := c51
 simp only [ByteArray.size_append] at h_
 exact h_
 }
 have c51y : (9223372036854775807 < 1 + t267.size + 1 + 1) = False := eq_false (Nat.not_lt.2 c51z)
 have c51b0 := eq_true c51
 have c51b1 : decide ((((⟨#[40]⟩ : ByteArray) ++ t267) ++ (⟨#[41]⟩ : ByteArray)).size + 1 ≤ 9223372036854775807) = true := decide_eq_true c51
 try have c51b2 : (9223372036854775807 < (((⟨#[40]⟩ : ByteArray) ++ t267) ++ (⟨#[41]⟩ : ByteArray)).size + 1) = False := eq_false (Nat.not_lt.2 c51)
 by_cases c52 : ((((⟨#[40]⟩ : ByteArray) ++ t267) ++ (⟨#[41]⟩ : ByteArray)) ++ (⟨#[38]⟩ : ByteArray)).size + t272.size ≤ 9223372036854775807
 {
 rw [if_pos c52] at H
 have c52z : 1 + t267.size + 1 + 1 + t272.size ≤ 9223372036854775807 := by{
 have h_ := c52
 simp only [ByteArray.size_append] at h_
 exact h_
 }
 have c52y : (9223372036854775807 < 1 + t267.size + 1 + 1 + t272.size) = False := eq_false (Nat.not_lt.2 c52z)
 have c52b0 := eq_true c52
 have c52b1 : decide (((((⟨#[40]⟩ : ByteArray) ++ t267) ++ (⟨#[41]⟩ : ByteArray)) ++ (⟨#[38]⟩ : ByteArray)).size + t272.size ≤ 9223372036854775807) = true := decide_eq_true c52
 try have c52b2 : (9223372036854775807 < ((((⟨#[40]⟩ : ByteArray) ++ t267) ++ (⟨#[41]⟩ : ByteArray)) ++ (⟨#[38]⟩ : ByteArray)).size + t272.size) = False := eq_false (Nat.not_lt.2 c52)
 obtain rfl := Option.some.inj H
 have p255 : 0 ≤ ((ji2) : Int) := of_decide_eq_true zcj_2
 have q255 : (ji2) < (l0.length : Int) := of_decide_eq_true zcj_2
 obtain ⟨ad255, e255, hx255_0, hx255_1, hx255_2⟩ := at_T77 HR0.out (ji2) p255 q255
 cases e255
 replace p255 := eq_true p255
 replace q255 := eq_true q255
 go_enter Tryd.func53, Tryd.ntmps53
 go_wp2_with (first | ((with_reducible refine gate_callee (f := 62) rfl ?_); refine goesL_ (some 35) rfl rfl Tryd.func62 (by kernel_rfl) rfl #[.slice (some ad255) l0.length c0, .int .i64 ji47] rfl zcj_142 ?_; (with_reducible refine (spec_l3Starts.calls k _ _ l0 ji47 t262 _ ?side1 ?side2 A14.out).mono ?_); (case side1 => exact zcj_45); (case side2 => exact HC0.out); rintro e w' ⟨rfl, ⟨nd, rfl⟩⟩; refine ⟨_, rfl, ?_⟩; have q53 : (t262 : Int) ≤ ((l0.length : Int) : Int) := of_decide_eq_true zcj_2; obtain ⟨i053, hi053, _, hsz53, _⟩ := info_parts info77; have hroom53 : l0.length ≤ c0 := HC0.out; have hC53 : Kd.C k77 _ (some ad255) l0.length l0 := HR0.out; have hcut53 := cut_to (P := Tryd.prog) 65 77 .i64 Tryd.underlying65 hi053 (some ad255) l0.length c0 t262 (of_decide_eq_true zcj_2) q53 hroom53; have hr53 := Kd.C_take (m := (t262 : Int).toNat) hC53 (by omega); have hy53 : y263.length = (t262 : Int).toNat := zcj_69; rw [← Ny263.out] at hr53; rw [← hy53] at hcut53; have HR266 := Aside0.mk hr53; have HC266 := Aside0.mk (show y263.length ≤ c0 from by omega); clear hr53 hC53 hroom53 hi053 hsz53; have KY53 := Aside0.mk hy53; clear hy53; replace q53 := eq_true q53) | ((with_reducible refine gate_callee (f := 53) rfl ?_); refine goesL_ (some 39) rfl rfl Tryd.func53 (by kernel_rfl) rfl #[.slice (some ad255) y263.length c0] rfl zcj_3 ?_; (with_reducible refine (ih k (by omega) _ _ y263 t267 _ ?side1 ?side2 A17.out).mono ?_); (case side1 => exact zcj_70); (case side2 => exact HC266.out); rintro e w54 ⟨rfl, hb⟩; refine ⟨_, rfl, ?_⟩; have n0_ := Aside0.mk (below_step zcj_5 hb); clear HB; have HB := n0_; clear n0_; (try clear hb); (try clear hb2); (try clear hk); (try clear hi); have q55 : ((ji2) : Int) ≤ ((l0.length : Int) : Int) := of_decide_eq_true zcj_2; obtain ⟨i055, hi055, _, hsz55, _⟩ := info_parts info77; have hroom55 : l0.length ≤ c0 := HC0.out; have hC55 : Kd.C k77 _ (some ad255) l0.length l0 := HR0.out; have ql55 : (t262 : Int) ≤ ((ji2) : Int) := of_decide_eq_true zcj_2; have q055 : (0 : Int) ≤ (t262 : Int) := of_decide_eq_true zcj_2; have hcut55 := cut_mid (P := Tryd.prog) 65 77 .i64 .i64 Tryd.underlying65 hi055 3 hsz55 (some ad255) l0.length c0 t262 (ji2) q055 ql55 q55 hroom55; have hr55 := Kd.C_mid (lo := (t262 : Int).toNat) (hi := ((ji2) : Int).toNat) (c := c0) hC55 (by omega) (by omega) hroom55; obtain ⟨A55, hA55⟩ : ∃ A1, A1 = (if c0 = (t262 : Int).toNat then (some ad255) else ((some ad255) : Option Addr).map (·.add ((t262 : Int).toNat * 3))) := ⟨_, rfl⟩; obtain ⟨c55, hc55⟩ : ∃ c1, c1 = c0 - (t262 : Int).toNat := ⟨_, rfl⟩; have hy55 : y268.length = ((ji2) : Int).toNat - (t262 : Int).toNat := zcj_71; rw [show ((l0).take ((ji2) : Int).toNat).drop (t262 : Int).toNat = y268 from Ny268.out.symm] at hr55; replace hr55 : Kd.C k77 _ A55 y268.length y268 := (by rw [hA55]; exact hr55); rw [← hy55, ← hA55, ← hc55] at hcut55; have HR271 := Aside0.mk hr55; have HC271 := Aside0.mk (show y268.length ≤ c55 from by rw [hy55, hc55]; exact Nat.sub_le_sub_right (Nat.le_trans (by omega) hroom55) _); clear hr55 hC55 hroom55 hi055 hsz55 hc55; have KY55 := Aside0.mk hy55; have KA55 := Aside0.mk hA55; clear hy55 hA55; replace q55 := eq_true q55) | ((with_reducible refine gate_callee (f := 53) rfl ?_); refine goesL_ (some 44) rfl rfl Tryd.func53 (by kernel_rfl) rfl #[.slice A55 y268.length c55] rfl zcj_3 ?_; (with_reducible refine (ih k (by omega) _ _ y268 t272 _ ?side1 ?side2 A21.out).mono ?_); (case side1 => exact zcj_72); (case side2 => exact HC271.out); rintro e w56 ⟨rfl, hb⟩; refine ⟨_, rfl, ?_⟩; have n0_ := Aside0.mk (below_step zcj_5 hb); clear HB; have HB := n0_; clear n0_; (try clear hb); (try clear hb2); (try clear hk); (try clear hi); have p273 : 0 ≤ ((ji2) : Int) := of_decide_eq_true zcj_2; have q273 : (ji2) < (l0.length : Int) := of_decide_eq_true zcj_2; obtain ⟨ad273, e273, hx273_0, hx273_1, hx273_2⟩ := at_T77 HR0.out (ji2) p273 q273; obtain rfl : ad255 = ad273 := (by injection e273); replace hx273_0 := (HB.out.cell (World.block_lt_of_cell? w _ hx273_0)).trans hx273_0; replace hx273_1 := (HB.out.cell (World.block_lt_of_cell? w _ hx273_1)).trans hx273_1; replace hx273_2 := (HB.out.cell (World.block_lt_of_cell? w _ hx273_2)).trans hx273_2; replace p273 := eq_true p273; replace q273 := eq_true q273; have p275 : 0 ≤ ((ji41) : Int) := of_decide_eq_true zcj_2; have q275 : (ji41) < (l0.length : Int) := of_decide_eq_true zcj_2; obtain ⟨ad275, e275, hx275_0, hx275_1, hx275_2⟩ := at_T77 HR0.out (ji41) p275 q275; obtain rfl : ad255 = ad275 := (by injection e275); replace hx275_0 := (HB.out.cell (World.block_lt_of_cell? w _ hx275_0)).trans hx275_0; replace hx275_1 := (HB.out.cell (World.block_lt_of_cell? w _ hx275_1)).trans hx275_1; replace hx275_2 := (HB.out.cell (World.block_lt_of_cell? w _ hx275_2)).trans hx275_2; replace p275 := eq_true p275; replace q275 := eq_true q275; have p276 : 0 ≤ ((ji47) : Int) := of_decide_eq_true zcj_2; have q276 : (ji47) < (l0.length : Int) := of_decide_eq_true zcj_2; obtain ⟨ad276, e276, hx276_0, hx276_1, hx276_2⟩ := at_T77 HR0.out (ji47) p276 q276; obtain rfl : ad255 = ad276 := (by injection e276); replace hx276_0 := (HB.out.cell (World.block_lt_of_cell? w _ hx276_0)).trans hx276_0; replace hx276_1 := (HB.out.cell (World.block_lt_of_cell? w _ hx276_1)).trans hx276_1; replace hx276_2 := (HB.out.cell (World.block_lt_of_cell? w _ hx276_2)).trans hx276_2; replace p276 := eq_true p276; replace q276 := eq_true q276))
 go_ret
 exact ⟨zcj_143, zcj_5⟩
 }
 {
 rw [if_neg c52] at H
 exact absurd H (by simp)
 }
 }
 {
 rw [if_neg c51] at H
 exact absurd H (by simp)
 }
 }
 {
 rw [if_neg c50] at H
 have c50b0 : (((rd_T77 l0 (ji47)).f0) == 0) = false := beq_eq_false_iff_ne.mpr c50
 have c50b1 : (((rd_T77 l0 (ji47)).f0) != 0) = true := bne_iff_ne.mpr c50
 by_cases c57 : 1 + t272.size ≤ 9223372036854775807
 {
 rw [if_pos c57] at H
 have c57b0 := eq_true c57
 have c57b1 : decide (1 + t272.size ≤ 9223372036854775807) = true := decide_eq_true c57
 try have c57b2 : (9223372036854775807 < 1 + t272.size) = False := eq_false (Nat.not_lt.2 c57)
 by_cases c58 : ((⟨#[40]⟩ : ByteArray) ++ t272).size + 1 ≤ 9223372036854775807
 {
 rw [if_pos c58] at H
 have c58z : 1 + t272.size + 1 ≤ 9223372036854775807 := by{
 have h_ := c58
 simp only [ByteArray.size_append] at h_
 exact h_
 }
 have c58y : (9223372036854775807 < 1 + t272.size + 1) = False := eq_false (Nat.not_lt.2 c58z)
 have c58b0 := eq_true c58
 have c58b1 : decide (((⟨#[40]⟩ : ByteArray) ++ t272).size + 1 ≤ 9223372036854775807) = true := decide_eq_true c58
 try have c58b2 : (9223372036854775807 < ((⟨#[40]⟩ : ByteArray) ++ t272).size + 1) = False := eq_false (Nat.not_lt.2 c58)
 by_cases c59 : (((⟨#[40]⟩ : ByteArray) ++ t267) ++ (⟨#[41]⟩ : ByteArray)).size + 1 ≤ 9223372036854775807
 {
 rw [if_pos c59] at H
 have c59z : 1 + t267.size + 1 + 1 ≤ 9223372036854775807 := by{
 have h_ := c59
 simp only [ByteArray.size_append] at h_
 exact h_
 }
 have c59y : (9223372036854775807 < 1 + t267.size + 1 + 1) = False := eq_false (Nat.not_lt.2 c59z)
 have c59b0 := eq_true c59
 have c59b1 : decide ((((⟨#[40]⟩ : ByteArray) ++ t267) ++ (⟨#[41]⟩ : ByteArray)).size + 1 ≤ 9223372036854775807) = true := decide_eq_true c59
 try have c59b2 : (9223372036854775807 < (((⟨#[40]⟩ : ByteArray) ++ t267) ++ (⟨#[41]⟩ : ByteArray)).size + 1) = False := eq_false (Nat.not_lt.2 c59)
 by_cases c60 : ((((⟨#[40]⟩ : ByteArray) ++ t267) ++ (⟨#[41]⟩ : ByteArray)) ++ (⟨#[38]⟩ : ByteArray)).size + (((⟨#[40]⟩ : ByteArray) ++ t272) ++ (⟨#[41]⟩ : ByteArray)).size ≤ 9223372036854775807
 {
 rw [if_pos c60] at H
 have c60z : 1 + t267.size + 1 + 1 + (1 + t272.size + 1) ≤ 9223372036854775807 := by{
 have h_ := c60
 simp only [ByteArray.size_append] at h_
 exact h_
 }
 have c60y : (9223372036854775807 < 1 + t267.size + 1 + 1 + (1 + t272.size + 1)) = False := eq_false (Nat.not_lt.2 c60z)
 have c60b0 := eq_true c60
 have c60b1 : decide (((((⟨#[40]⟩ : ByteArray) ++ t267) ++ (⟨#[41]⟩ : ByteArray)) ++ (⟨#[38]⟩ : ByteArray)).size + (((⟨#[40]⟩ : ByteArray) ++ t272) ++ (⟨#[41]⟩ : ByteArray)).size ≤ 9223372036854775807) = true := decide_eq_true c60
 try have c60b2 : (9223372036854775807 < ((((⟨#[40]⟩ : ByteArray) ++ t267) ++ (⟨#[41]⟩ : ByteArray)) ++ (⟨#[38]⟩ : ByteArray)).size + (((⟨#[40]⟩ : ByteArray) ++ t272) ++ (⟨#[41]⟩ : ByteArray)).size) = False := eq_false (Nat.not_lt.2 c60)
 obtain rfl := Option.some.inj H
 have p255 : 0 ≤ ((ji2) : Int) := of_decide_eq_true zcj_2
 have q255 : (ji2) < (l0.length : Int) := of_decide_eq_true zcj_2
 obtain ⟨ad255, e255, hx255_0, hx255_1, hx255_2⟩ := at_T77 HR0.out (ji2) p255 q255
 cases e255
 replace p255 := eq_true p255
 replace q255 := eq_true q255
 go_enter Tryd.func53, Tryd.ntmps53
 go_wp2_with (first | ((with_reducible refine gate_callee (f := 62) rfl ?_); refine goesL_ (some 35) rfl rfl Tryd.func62 (by kernel_rfl) rfl #[.slice (some ad255) l0.length c0, .int .i64 ji47] rfl zcj_142 ?_; (with_reducible refine (spec_l3Starts.calls k _ _ l0 ji47 t262 _ ?side1 ?side2 A14.out).mono ?_); (case side1 => exact zcj_45); (case side2 => exact HC0.out); rintro e w' ⟨rfl, ⟨nd, rfl⟩⟩; refine ⟨_, rfl, ?_⟩; have q61 : (t262 : Int) ≤ ((l0.length : Int) : Int) := of_decide_eq_true zcj_2; obtain ⟨i061, hi061, _, hsz61, _⟩ := info_parts info77; have hroom61 : l0.length ≤ c0 := HC0.out; have hC61 : Kd.C k77 _ (some ad255) l0.length l0 := HR0.out; have hcut61 := cut_to (P := Tryd.prog) 65 77 .i64 Tryd.underlying65 hi061 (some ad255) l0.length c0 t262 (of_decide_eq_true zcj_2) q61 hroom61; have hr61 := Kd.C_take (m := (t262 : Int).toNat) hC61 (by omega); have hy61 : y263.length = (t262 : Int).toNat := zcj_69; rw [← Ny263.out] at hr61; rw [← hy61] at hcut61; have HR266 := Aside0.mk hr61; have HC266 := Aside0.mk (show y263.length ≤ c0 from by omega); clear hr61 hC61 hroom61 hi061 hsz61; have KY61 := Aside0.mk hy61; clear hy61; replace q61 := eq_true q61) | ((with_reducible refine gate_callee (f := 53) rfl ?_); refine goesL_ (some 39) rfl rfl Tryd.func53 (by kernel_rfl) rfl #[.slice (some ad255) y263.length c0] rfl zcj_3 ?_; (with_reducible refine (ih k (by omega) _ _ y263 t267 _ ?side1 ?side2 A17.out).mono ?_); (case side1 => exact zcj_70); (case side2 => exact HC266.out); rintro e w62 ⟨rfl, hb⟩; refine ⟨_, rfl, ?_⟩; have n0_ := Aside0.mk (below_step zcj_5 hb); clear HB; have HB := n0_; clear n0_; (try clear hb); (try clear hb2); (try clear hk); (try clear hi); have q63 : ((ji2) : Int) ≤ ((l0.length : Int) : Int) := of_decide_eq_true zcj_2; obtain ⟨i063, hi063, _, hsz63, _⟩ := info_parts info77; have hroom63 : l0.length ≤ c0 := HC0.out; have hC63 : Kd.C k77 _ (some ad255) l0.length l0 := HR0.out; have ql63 : (t262 : Int) ≤ ((ji2) : Int) := of_decide_eq_true zcj_2; have q063 : (0 : Int) ≤ (t262 : Int) := of_decide_eq_true zcj_2; have hcut63 := cut_mid (P := Tryd.prog) 65 77 .i64 .i64 Tryd.underlying65 hi063 3 hsz63 (some ad255) l0.length c0 t262 (ji2) q063 ql63 q63 hroom63; have hr63 := Kd.C_mid (lo := (t262 : Int).toNat) (hi := ((ji2) : Int).toNat) (c := c0) hC63 (by omega) (by omega) hroom63; obtain ⟨A63, hA63⟩ : ∃ A1, A1 = (if c0 = (t262 : Int).toNat then (some ad255) else ((some ad255) : Option Addr).map (·.add ((t262 : Int).toNat * 3))) := ⟨_, rfl⟩; obtain ⟨c63, hc63⟩ : ∃ c1, c1 = c0 - (t262 : Int).toNat := ⟨_, rfl⟩; have hy63 : y268.length = ((ji2) : Int).toNat - (t262 : Int).toNat := zcj_71; rw [show ((l0).take ((ji2) : Int).toNat).drop (t262 : Int).toNat = y268 from Ny268.out.symm] at hr63; replace hr63 : Kd.C k77 _ A63 y268.length y268 := (by rw [hA63]; exact hr63); rw [← hy63, ← hA63, ← hc63] at hcut63; have HR271 := Aside0.mk hr63; have HC271 := Aside0.mk (show y268.length ≤ c63 from by rw [hy63, hc63]; exact Nat.sub_le_sub_right (Nat.le_trans (by omega) hroom63) _); clear hr63 hC63 hroom63 hi063 hsz63 hc63; have KY63 := Aside0.mk hy63; have KA63 := Aside0.mk hA63; clear hy63 hA63; replace q63 := eq_true q63) | ((with_reducible refine gate_callee (f := 53) rfl ?_); refine goesL_ (some 44) rfl rfl Tryd.func53 (by kernel_rfl) rfl #[.slice A63 y268.length c63] rfl zcj_3 ?_; (with_reducible refine (ih k (by omega) _ _ y268 t272 _ ?side1 ?side2 A21.out).mono ?_); (case side1 => exact zcj_72); (case side2 => exact HC271.out); rintro e w64 ⟨rfl, hb⟩; refine ⟨_, rfl, ?_⟩; have n0_ := Aside0.mk (below_step zcj_5 hb); clear HB; have HB := n0_; clear n0_; (try clear hb); (try clear hb2); (try clear hk); (try clear hi); have p273 : 0 ≤ ((ji2) : Int) := of_decide_eq_true zcj_2; have q273 : (ji2) < (l0.length : Int) := of_decide_eq_true zcj_2; obtain ⟨ad273, e273, hx273_0, hx273_1, hx273_2⟩ := at_T77 HR0.out (ji2) p273 q273; obtain rfl : ad255 = ad273 := (by injection e273); replace hx273_0 := (HB.out.cell (World.block_lt_of_cell? w _ hx273_0)).trans hx273_0; replace hx273_1 := (HB.out.cell (World.block_lt_of_cell? w _ hx273_1)).trans hx273_1; replace hx273_2 := (HB.out.cell (World.block_lt_of_cell? w _ hx273_2)).trans hx273_2; replace p273 := eq_true p273; replace q273 := eq_true q273; have p275 : 0 ≤ ((ji41) : Int) := of_decide_eq_true zcj_2; have q275 : (ji41) < (l0.length : Int) := of_decide_eq_true zcj_2; obtain ⟨ad275, e275, hx275_0, hx275_1, hx275_2⟩ := at_T77 HR0.out (ji41) p275 q275; obtain rfl : ad255 = ad275 := (by injection e275); replace hx275_0 := (HB.out.cell (World.block_lt_of_cell? w _ hx275_0)).trans hx275_0; replace hx275_1 := (HB.out.cell (World.block_lt_of_cell? w _ hx275_1)).trans hx275_1; replace hx275_2 := (HB.out.cell (World.block_lt_of_cell? w _ hx275_2)).trans hx275_2; replace p275 := eq_true p275; replace q275 := eq_true q275; have p276 : 0 ≤ ((ji47) : Int) := of_decide_eq_true zcj_2; have q276 : (ji47) < (l0.length : Int) := of_decide_eq_true zcj_2; obtain ⟨ad276, e276, hx276_0, hx276_1, hx276_2⟩ := at_T77 HR0.out (ji47) p276 q276; obtain rfl : ad255 = ad276 := (by injection e276); replace hx276_0 := (HB.out.cell (World.block_lt_of_cell? w _ hx276_0)).trans hx276_0; replace hx276_1 := (HB.out.cell (World.block_lt_of_cell? w _ hx276_1)).trans hx276_1; replace hx276_2 := (HB.out.cell (World.block_lt_of_cell? w _ hx276_2)).trans hx276_2; replace p276 := eq_true p276; replace q276 := eq_true q276))
 go_ret
 exact ⟨zcj_143, zcj_5⟩
 }
 {
 rw [if_neg c60] at H
 exact absurd H (by simp)
 }
 }
 {
 rw [if_neg c59] at H
 exact absurd H (by simp)
 }
 }
 {
 rw [if_neg c58] at H
 exact absurd H (by simp)
 }
 }
 {
 rw [if_neg c57] at H
 exact absurd H (by simp)
 }
 }
 }
 {
 rw [if_neg c49] at H
 exact absurd H (by simp)
 }
 }
 {
 rw [if_neg c48] at H
 exact absurd H (by simp)
 }
 }
 {
 rw [if_neg c46] at H
 exact absurd H (by simp)
 }
 }
 {
 rw [if_neg c45] at H
 exact absurd H (by simp)
 }
 }
 {
 rw [if_neg c44] at H
 have c44b0 : (((rd_T77 l0 (ji41)).f0) == 2) = false := beq_eq_false_iff_ne.mpr c44
 have c44b1 : (((rd_T77 l0 (ji41)).f0) != 2) = true := bne_iff_ne.mpr c44
 obtain ⟨ji65, hji65⟩ : ∃ j_ : Int, (wrap64 ((ji2) - 1)) = j_ := ⟨_, rfl⟩
 replace H : (if 0 ≤ (ji65) then (if (ji65) < (l0.length : Int) then (if ((rd_T77 l0 (ji65)).f0) = 0 then (if t267.size + 1 ≤ 9223372036854775807 then (if (t267 ++ (⟨#[38]⟩ : ByteArray)).size + t272.size ≤ 9223372036854775807 then (some ((t267 ++ (⟨#[38]⟩ : ByteArray)) ++ t272)) else (none)) else (none)) else (if 1 + t272.size ≤ 9223372036854775807 then (if ((⟨#[40]⟩ : ByteArray) ++ t272).size + 1 ≤ 9223372036854775807 then (if t267.size + 1 ≤ 9223372036854775807 then (if (t267 ++ (⟨#[38]⟩ : ByteArray)).size + (((⟨#[40]⟩ : ByteArray) ++ t272) ++ (⟨#[41]⟩ : ByteArray)).size ≤ 9223372036854775807 then (some ((t267 ++ (⟨#[38]⟩ : ByteArray)) ++ (((⟨#[40]⟩ : ByteArray) ++ t272) ++ (⟨#[41]⟩ : ByteArray)))) else (none)) else (none)) else (none)) else (none))) else (none)) else (none)) = some r := by first | (rw [hji65] at H; exact H) | (simp only [hji65] at H ⊢; exact H)
 (try rw [hji65] at A14)
 (try rw [hji65] at A17)
 (try rw [hji65] at A21)
 have hji65w : (IntKind.i64.wrap ((ji2) - 1)) = ji65 := (i64_w _).trans hji65
 by_cases c66 : 0 ≤ (ji65)
 {
 rw [if_pos c66] at H
 have c66b0 : decide (0 ≤ (ji65)) = true := decide_eq_true c66
 clear c66
 by_cases c67 : (ji65) < (l0.length : Int)
 {
 rw [if_pos c67] at H
 have c67b0 : decide ((ji65) < (l0.length : Int)) = true := decide_eq_true c67
 clear c67
 by_cases c68 : ((rd_T77 l0 (ji65)).f0) = 0
 {
 rw [if_pos c68] at H
 have c68b0 : (((rd_T77 l0 (ji65)).f0) == 0) = true := beq_iff_eq.mpr c68
 have c68b1 : (((rd_T77 l0 (ji65)).f0) != 0) = false := bne_eq_false_iff_eq.mpr c68
 clear c68
 by_cases c69 : t267.size + 1 ≤ 9223372036854775807
 {
 rw [if_pos c69] at H
 have c69b0 := eq_true c69
 have c69b1 : decide (t267.size + 1 ≤ 9223372036854775807) = true := decide_eq_true c69
 try have c69b2 : (9223372036854775807 < t267.size + 1) = False := eq_false (Nat.not_lt.2 c69)
 by_cases c70 : (t267 ++ (⟨#[38]⟩ : ByteArray)).size + t272.size ≤ 9223372036854775807
 {
 rw [if_pos c70] at H
 have c70z : t267.size + 1 + t272.size ≤ 9223372036854775807 := by{
 have h_ := c70
 simp only [ByteArray.size_append] at h_
 exact h_
 }
 have c70y : (9223372036854775807 < t267.size + 1 + t272.size) = False := eq_false (Nat.not_lt.2 c70z)
 have c70b0 := eq_true c70
 have c70b1 : decide ((t267 ++ (⟨#[38]⟩ : ByteArray)).size + t272.size ≤ 9223372036854775807) = true := decide_eq_true c70
 try have c70b2 : (9223372036854775807 < (t267 ++ (⟨#[38]⟩ : ByteArray)).size + t272.size) = False := eq_false (Nat.not_lt.2 c70)
 obtain rfl := Option.some.inj H
 have p255 : 0 ≤ ((ji2) : Int) := of_decide_eq_true zcj_2
 have q255 : (ji2) < (l0.length : Int) := of_decide_eq_true zcj_2
 obtain ⟨ad255, e255, hx255_0, hx255_1, hx255_2⟩ := at_T77 HR0.out (ji2) p255 q255
 cases e255
 replace p255 := eq_true p255
 replace q255 := eq_true q255
 go_enter Tryd.func53, Tryd.ntmps53
 go_wp2_with (first | ((with_reducible refine gate_callee (f := 62) rfl ?_); refine goesL_ (some 35) rfl rfl Tryd.func62 (by kernel_rfl) rfl #[.slice (some ad255) l0.length c0, .int .i64 ji65] rfl zcj_144 ?_; (with_reducible refine (spec_l3Starts.calls k _ _ l0 ji65 t262 _ ?side1 ?side2 A14.out).mono ?_); (case side1 => exact zcj_45); (case side2 => exact HC0.out); rintro e w' ⟨rfl, ⟨nd, rfl⟩⟩; refine ⟨_, rfl, ?_⟩; have q71 : (t262 : Int) ≤ ((l0.length : Int) : Int) := of_decide_eq_true zcj_2; obtain ⟨i071, hi071, _, hsz71, _⟩ := info_parts info77; have hroom71 : l0.length ≤ c0 := HC0.out; have hC71 : Kd.C k77 _ (some ad255) l0.length l0 := HR0.out; have hcut71 := cut_to (P := Tryd.prog) 65 77 .i64 Tryd.underlying65 hi071 (some ad255) l0.length c0 t262 (of_decide_eq_true zcj_2) q71 hroom71; have hr71 := Kd.C_take (m := (t262 : Int).toNat) hC71 (by omega); have hy71 : y263.length = (t262 : Int).toNat := zcj_69; rw [← Ny263.out] at hr71; rw [← hy71] at hcut71; have HR266 := Aside0.mk hr71; have HC266 := Aside0.mk (show y263.length ≤ c0 from by omega); clear hr71 hC71 hroom71 hi071 hsz71; have KY71 := Aside0.mk hy71; clear hy71; replace q71 := eq_true q71) | ((with_reducible refine gate_callee (f := 53) rfl ?_); refine goesL_ (some 39) rfl rfl Tryd.func53 (by kernel_rfl) rfl #[.slice (some ad255) y263.length c0] rfl zcj_3 ?_; (with_reducible refine (ih k (by omega) _ _ y263 t267 _ ?side1 ?side2 A17.out).mono ?_); (case side1 => exact zcj_70); (case side2 => exact HC266.out); rintro e w72 ⟨rfl, hb⟩; refine ⟨_, rfl, ?_⟩; have n0_ := Aside0.mk (below_step zcj_5 hb); clear HB; have HB := n0_; clear n0_; (try clear hb); (try clear hb2); (try clear hk); (try clear hi); have q73 : ((ji2) : Int) ≤ ((l0.length : Int) : Int) := of_decide_eq_true zcj_2; obtain ⟨i073, hi073, _, hsz73, _⟩ := info_parts info77; have hroom73 : l0.length ≤ c0 := HC0.out; have hC73 : Kd.C k77 _ (some ad255) l0.length l0 := HR0.out; have ql73 : (t262 : Int) ≤ ((ji2) : Int) := of_decide_eq_true zcj_2; have q073 : (0 : Int) ≤ (t262 : Int) := of_decide_eq_true zcj_2; have hcut73 := cut_mid (P := Tryd.prog) 65 77 .i64 .i64 Tryd.underlying65 hi073 3 hsz73 (some ad255) l0.length c0 t262 (ji2) q073 ql73 q73 hroom73; have hr73 := Kd.C_mid (lo := (t262 : Int).toNat) (hi := ((ji2) : Int).toNat) (c := c0) hC73 (by omega) (by omega) hroom73; obtain ⟨A73, hA73⟩ : ∃ A1, A1 = (if c0 = (t262 : Int).toNat then (some ad255) else ((some ad255) : Option Addr).map (·.add ((t262 : Int).toNat * 3))) := ⟨_, rfl⟩; obtain ⟨c73, hc73⟩ : ∃ c1, c1 = c0 - (t262 : Int).toNat := ⟨_, rfl⟩; have hy73 : y268.length = ((ji2) : Int).toNat - (t262 : Int).toNat := zcj_71; rw [show ((l0).take ((ji2) : Int).toNat).drop (t262 : Int).toNat = y268 from Ny268.out.symm] at hr73; replace hr73 : Kd.C k77 _ A73 y268.length y268 := (by rw [hA73]; exact hr73); rw [← hy73, ← hA73, ← hc73] at hcut73; have HR271 := Aside0.mk hr73; have HC271 := Aside0.mk (show y268.length ≤ c73 from by rw [hy73, hc73]; exact Nat.sub_le_sub_right (Nat.le_trans (by omega) hroom73) _); clear hr73 hC73 hroom73 hi073 hsz73 hc73; have KY73 := Aside0.mk hy73; have KA73 := Aside0.mk hA73; clear hy73 hA73; replace q73 := eq_true q73) | ((with_reducible refine gate_callee (f := 53) rfl ?_); refine goesL_ (some 44) rfl rfl Tryd.func53 (by kernel_rfl) rfl #[.slice A73 y268.length c73] rfl zcj_3 ?_; (with_reducible refine (ih k (by omega) _ _ y268 t272 _ ?side1 ?side2 A21.out).mono ?_); (case side1 => exact zcj_72); (case side2 => exact HC271.out); rintro e w74 ⟨rfl, hb⟩; refine ⟨_, rfl, ?_⟩; have n0_ := Aside0.mk (below_step zcj_5 hb); clear HB; have HB := n0_; clear n0_; (try clear hb); (try clear hb2); (try clear hk); (try clear hi); have p273 : 0 ≤ ((ji2) : Int) := of_decide_eq_true zcj_2; have q273 : (ji2) < (l0.length : Int) := of_decide_eq_true zcj_2; obtain ⟨ad273, e273, hx273_0, hx273_1, hx273_2⟩ := at_T77 HR0.out (ji2) p273 q273; obtain rfl : ad255 = ad273 := (by injection e273); replace hx273_0 := (HB.out.cell (World.block_lt_of_cell? w _ hx273_0)).trans hx273_0; replace hx273_1 := (HB.out.cell (World.block_lt_of_cell? w _ hx273_1)).trans hx273_1; replace hx273_2 := (HB.out.cell (World.block_lt_of_cell? w _ hx273_2)).trans hx273_2; replace p273 := eq_true p273; replace q273 := eq_true q273; have p275 : 0 ≤ ((ji41) : Int) := of_decide_eq_true zcj_2; have q275 : (ji41) < (l0.length : Int) := of_decide_eq_true zcj_2; obtain ⟨ad275, e275, hx275_0, hx275_1, hx275_2⟩ := at_T77 HR0.out (ji41) p275 q275; obtain rfl : ad255 = ad275 := (by injection e275); replace hx275_0 := (HB.out.cell (World.block_lt_of_cell? w _ hx275_0)).trans hx275_0; replace hx275_1 := (HB.out.cell (World.block_lt_of_cell? w _ hx275_1)).trans hx275_1; replace hx275_2 := (HB.out.cell (World.block_lt_of_cell? w _ hx275_2)).trans hx275_2; replace p275 := eq_true p275; replace q275 := eq_true q275; have p277 : 0 ≤ ((ji65) : Int) := of_decide_eq_true zcj_2; have q277 : (ji65) < (l0.length : Int) := of_decide_eq_true zcj_2; obtain ⟨ad277, e277, hx277_0, hx277_1, hx277_2⟩ := at_T77 HR0.out (ji65) p277 q277; obtain rfl : ad255 = ad277 := (by injection e277); replace hx277_0 := (HB.out.cell (World.block_lt_of_cell? w _ hx277_0)).trans hx277_0; replace hx277_1 := (HB.out.cell (World.block_lt_of_cell? w _ hx277_1)).trans hx277_1; replace hx277_2 := (HB.out.cell (World.block_lt_of_cell? w _ hx277_2)).trans hx277_2; replace p277 := eq_true p277; replace q277 := eq_true q277))
 go_ret
 exact ⟨zcj_145, zcj_5⟩
 }
 {
 rw [if_neg c70] at H
 exact absurd H (by simp)
 }
 }
 {
 rw [if_neg c69] at H
 exact absurd H (by simp)
 }
 }
 {
 rw [if_neg c68] at H
 have c68b0 : (((rd_T77 l0 (ji65)).f0) == 0) = false := beq_eq_false_iff_ne.mpr c68
 have c68b1 : (((rd_T77 l0 (ji65)).f0) != 0) = true := bne_iff_ne.mpr c68
 by_cases c75 : 1 + t272.size ≤ 9223372036854775807
 {
 rw [if_pos c75] at H
 have c75b0 := eq_true c75
 have c75b1 : decide (1 + t272.size ≤ 9223372036854775807) = true := decide_eq_true c75
 try have c75b2 : (9223372036854775807 < 1 + t272.size) = False := eq_false (Nat.not_lt.2 c75)
 by_cases c76 : ((⟨#[40]⟩ : ByteArray) ++ t272).size + 1 ≤ 9223372036854775807
 {
 rw [if_pos c76] at H
 have c76z : 1 + t272.size + 1 ≤ 9223372036854775807 := by{
 have h_ := c76
 simp only [ByteArray.size_append] at h_
 exact h_
 }
 have c76y : (9223372036854775807 < 1 + t272.size + 1) = False := eq_false (Nat.not_lt.2 c76z)
 have c76b0 := eq_true c76
 have c76b1 : decide (((⟨#[40]⟩ : ByteArray) ++ t272).size + 1 ≤ 9223372036854775807) = true := decide_eq_true c76
 try have c76b2 : (9223372036854775807 < ((⟨#[40]⟩ : ByteArray) ++ t272).size + 1) = False := eq_false (Nat.not_lt.2 c76)
 by_cases c77 : t267.size + 1 ≤ 9223372036854775807
 {
 rw [if_pos c77] at H
 have c77b0 := eq_true c77
 have c77b1 : decide (t267.size + 1 ≤ 9223372036854775807) = true := decide_eq_true c77
 try have c77b2 : (9223372036854775807 < t267.size + 1) = False := eq_false (Nat.not_lt.2 c77)
 by_cases c78 : (t267 ++ (⟨#[38]⟩ : ByteArray)).size + (((⟨#[40]⟩ : ByteArray) ++ t272) ++ (⟨#[41]⟩ : ByteArray)).size ≤ 9223372036854775807
 {
 rw [if_pos c78] at H
 have c78z : t267.size + 1 + (1 + t272.size + 1) ≤ 9223372036854775807 := by{
 have h_ := c78
 simp only [ByteArray.size_append] at h_
 exact h_
 }
 have c78y : (9223372036854775807 < t267.size + 1 + (1 + t272.size + 1)) = False := eq_false (Nat.not_lt.2 c78z)
 have c78b0 := eq_true c78
 have c78b1 : decide ((t267 ++ (⟨#[38]⟩ : ByteArray)).size + (((⟨#[40]⟩ : ByteArray) ++ t272) ++ (⟨#[41]⟩ : ByteArray)).size ≤ 9223372036854775807) = true := decide_eq_true c78
 try have c78b2 : (9223372036854775807 < (t267 ++ (⟨#[38]⟩ : ByteArray)).size + (((⟨#[40]⟩ : ByteArray) ++ t272) ++ (⟨#[41]⟩ : ByteArray)).size) = False := eq_false (Nat.not_lt.2 c78)
 obtain rfl := Option.some.inj H
 have p255 : 0 ≤ ((ji2) : Int) := of_decide_eq_true zcj_2
 have q255 : (ji2) < (l0.length : Int) := of_decide_eq_true zcj_2
 obtain ⟨ad255, e255, hx255_0, hx255_1, hx255_2⟩ := at_T77 HR0.out (ji2) p255 q255
 cases e255
 replace p255 := eq_true p255
 replace q255 := eq_true q255
 go_enter Tryd.func53, Tryd.ntmps53
 go_wp2_with (first | ((with_reducible refine gate_callee (f := 62) rfl ?_); refine goesL_ (some 35) rfl rfl Tryd.func62 (by kernel_rfl) rfl #[.slice (some ad255) l0.length c0, .int .i64 ji65] rfl zcj_144 ?_; (with_reducible refine (spec_l3Starts.calls k _ _ l0 ji65 t262 _ ?side1 ?side2 A14.out).mono ?_); (case side1 => exact zcj_45); (case side2 => exact HC0.out); rintro e w' ⟨rfl, ⟨nd, rfl⟩⟩; refine ⟨_, rfl, ?_⟩; have q79 : (t262 : Int) ≤ ((l0.length : Int) : Int) := of_decide_eq_true zcj_2; obtain ⟨i079, hi079, _, hsz79, _⟩ := info_parts info77; have hroom79 : l0.length ≤ c0 := HC0.out; have hC79 : Kd.C k77 _ (some ad255) l0.length l0 := HR0.out; have hcut79 := cut_to (P := Tryd.prog) 65 77 .i64 Tryd.underlying65 hi079 (some ad255) l0.length c0 t262 (of_decide_eq_true zcj_2) q79 hroom79; have hr79 := Kd.C_take (m := (t262 : Int).toNat) hC79 (by omega); have hy79 : y263.length = (t262 : Int).toNat := zcj_69; rw [← Ny263.out] at hr79; rw [← hy79] at hcut79; have HR266 := Aside0.mk hr79; have HC266 := Aside0.mk (show y263.length ≤ c0 from by omega); clear hr79 hC79 hroom79 hi079 hsz79; have KY79 := Aside0.mk hy79; clear hy79; replace q79 := eq_true q79) | ((with_reducible refine gate_callee (f := 53) rfl ?_); refine goesL_ (some 39) rfl rfl Tryd.func53 (by kernel_rfl) rfl #[.slice (some ad255) y263.length c0] rfl zcj_3 ?_; (with_reducible refine (ih k (by omega) _ _ y263 t267 _ ?side1 ?side2 A17.out).mono ?_); (case side1 => exact zcj_70); (case side2 => exact HC266.out); rintro e w80 ⟨rfl, hb⟩; refine ⟨_, rfl, ?_⟩; have n0_ := Aside0.mk (below_step zcj_5 hb); clear HB; have HB := n0_; clear n0_; (try clear hb); (try clear hb2); (try clear hk); (try clear hi); have q81 : ((ji2) : Int) ≤ ((l0.length : Int) : Int) := of_decide_eq_true zcj_2; obtain ⟨i081, hi081, _, hsz81, _⟩ := info_parts info77; have hroom81 : l0.length ≤ c0 := HC0.out; have hC81 : Kd.C k77 _ (some ad255) l0.length l0 := HR0.out; have ql81 : (t262 : Int) ≤ ((ji2) : Int) := of_decide_eq_true zcj_2; have q081 : (0 : Int) ≤ (t262 : Int) := of_decide_eq_true zcj_2; have hcut81 := cut_mid (P := Tryd.prog) 65 77 .i64 .i64 Tryd.underlying65 hi081 3 hsz81 (some ad255) l0.length c0 t262 (ji2) q081 ql81 q81 hroom81; have hr81 := Kd.C_mid (lo := (t262 : Int).toNat) (hi := ((ji2) : Int).toNat) (c := c0) hC81 (by omega) (by omega) hroom81; obtain ⟨A81, hA81⟩ : ∃ A1, A1 = (if c0 = (t262 : Int).toNat then (some ad255) else ((some ad255) : Option Addr).map (·.add ((t262 : Int).toNat * 3))) := ⟨_, rfl⟩; obtain ⟨c81, hc81⟩ : ∃ c1, c1 = c0 - (t262 : Int).toNat := ⟨_, rfl⟩; have hy81 : y268.length = ((ji2) : Int).toNat - (t262 : Int).toNat := zcj_71; rw [show ((l0).take ((ji2) : Int).toNat).drop (t262 : Int).toNat = y268 from Ny268.out.symm] at hr81; replace hr81 : Kd.C k77 _ A81 y268.length y268 := (by rw [hA81]; exact hr81); rw [← hy81, ← hA81, ← hc81] at hcut81; have HR271 := Aside0.mk hr81; have HC271 := Aside0.mk (show y268.length ≤ c81 from by rw [hy81, hc81]; exact Nat.sub_le_sub_right (Nat.le_trans (by omega) hroom81) _); clear hr81 hC81 hroom81 hi081 hsz81 hc81; have KY81 := Aside0.mk hy81; have KA81 := Aside0.mk hA81; clear hy81 hA81; replace q81 := eq_true q81) | ((with_reducible refine gate_callee (f := 53) rfl ?_); refine goesL_ (some 44) rfl rfl Tryd.func53 (by kernel_rfl) rfl #[.slice A81 y268.length c81] rfl zcj_3 ?_; (with_reducible refine (ih k (by omega) _ _ y268 t272 _ ?side1 ?side2 A21.out).mono ?_); (case side1 => exact zcj_72); (case side2 => exact HC271.out); rintro e w82 ⟨rfl, hb⟩; refine ⟨_, rfl, ?_⟩; have n0_ := Aside0.mk (below_step zcj_5 hb); clear HB; have HB := n0_; clear n0_; (try clear hb); (try clear hb2); (try clear hk); (try clear hi); have p273 : 0 ≤ ((ji2) : Int) := of_decide_eq_true zcj_2; have q273 : (ji2) < (l0.length : Int) := of_decide_eq_true zcj_2; obtain ⟨ad273, e273, hx273_0, hx273_1, hx273_2⟩ := at_T77 HR0.out (ji2) p273 q273; obtain rfl : ad255 = ad273 := (by injection e273); replace hx273_0 := (HB.out.cell (World.block_lt_of_cell? w _ hx273_0)).trans hx273_0; replace hx273_1 := (HB.out.cell (World.block_lt_of_cell? w _ hx273_1)).trans hx273_1; replace hx273_2 := (HB.out.cell (World.block_lt_of_cell? w _ hx273_2)).trans hx273_2; replace p273 := eq_true p273; replace q273 := eq_true q273; have p275 : 0 ≤ ((ji41) : Int) := of_decide_eq_true zcj_2; have q275 : (ji41) < (l0.length : Int) := of_decide_eq_true zcj_2; obtain ⟨ad275, e275, hx275_0, hx275_1, hx275_2⟩ := at_T77 HR0.out (ji41) p275 q275; obtain rfl : ad255 = ad275 := (by injection e275); replace hx275_0 := (HB.out.cell (World.block_lt_of_cell? w _ hx275_0)).trans hx275_0; replace hx275_1 := (HB.out.cell (World.block_lt_of_cell? w _ hx275_1)).trans hx275_1; replace hx275_2 := (HB.out.cell (World.block_lt_of_cell? w _ hx275_2)).trans hx275_2; replace p275 := eq_true p275; replace q275 := eq_true q275; have p277 : 0 ≤ ((ji65) : Int) := of_decide_eq_true zcj_2; have q277 : (ji65) < (l0.length : Int) := of_decide_eq_true zcj_2; obtain ⟨ad277, e277, hx277_0, hx277_1, hx277_2⟩ := at_T77 HR0.out (ji65) p277 q277; obtain rfl : ad255 = ad277 := (by injection e277); replace hx277_0 := (HB.out.cell (World.block_lt_of_cell? w _ hx277_0)).trans hx277_0; replace hx277_1 := (HB.out.cell (World.block_lt_of_cell? w _ hx277_1)).trans hx277_1; replace hx277_2 := (HB.out.cell (World.block_lt_of_cell? w _ hx277_2)).trans hx277_2; replace p277 := eq_true p277; replace q277 := eq_true q277))
 go_ret
 exact ⟨zcj_145, zcj_5⟩
 }
 {
 rw [if_neg c78] at H
 exact absurd H (by simp)
 }
 }
 {
 rw [if_neg c77] at H
 exact absurd H (by simp)
 }
 }
 {
 rw [if_neg c76] at H
 exact absurd H (by simp)
 }
 }
 {
 rw [if_neg c75] at H
 exact absurd H (by simp)
 }
 }
 }
 {
 rw [if_neg c67] at H
 exact absurd H (by simp)
 }
 }
 {
 rw [if_neg c66] at H
 exact absurd H (by simp)
 }
 }
 }
 {
 rw [if_neg c43] at H
 exact absurd H (by simp)
 }
 }
 {
 rw [if_neg c42] at H
 exact absurd H (by simp)
 }
 }
 }
 {
 rw [if_neg c20] at H
 exact absurd H (by simp)
 }
 }
 {
 rw [if_neg c19] at H
 exact absurd H (by simp)
 }
 }
 {
 rw [if_neg c16] at H
 exact absurd H (by simp)
 }
 }
 {
 rw [if_neg c15] at H
 exact absurd H (by simp)
 }
 }
 }
 {
 rw [if_neg c4] at H
 exact absurd H (by simp)
 }
 }
 {
 rw [if_neg c3] at H
 exact absurd H (by simp)
 }
end Go.Proofs.YtnkfbappnpnaoaaDoor.Q
