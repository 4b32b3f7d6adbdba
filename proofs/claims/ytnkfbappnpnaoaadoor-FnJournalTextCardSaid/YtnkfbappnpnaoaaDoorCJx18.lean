/- A part of this claim's proof: functions of the program as plain functions, with the proof that the code comes to their answers, and facts about them. Condition: none of its own. -/
import Derived.LaidLaws
import Derived.Lib.LaidTab
import Derived.Shelf.Vars
import Derived.Test.YtnkfbappnpnaoaaDoorCJx1
import Derived.Test.YtnkfbappnpnaoaaDoorCJx3
import Derived.Test.YtnkfbappnpnaoaaDoorCJx17
import Derived.Test.YtnkfbappnpnaoaaDoorCJx16
import Derived.Test.YtnkfbappnpnaoaaDoorCJx7
import Derived.Test.YtnkfbappnpnaoaaDoorCJx6
import Derived.Test.YtnkfbappnpnaoaaDoorCJx5
import Derived.Test.YtnkfbappnpnaoaaDoorCJz
namespace Go.Proofs.YtnkfbappnpnaoaaDoor.Q
open Go.RowKit Go.Proofs.YtnkfbappnpnaoaaDoorW.PrintWords Go.Proofs.YtnkfbappnpnaoaaDoorW.PrintLast Go.Proofs.YtnkfbappnpnaoaaDoorW.PrintMore
attribute [local go_sem] max2_int min2_int max_two min_two max_three min_three max_four min_four   -- for this text's walks alone
set_option linter.unusedVariables false
set_option linter.unusedSimpArgs false
def laws_FnJournalText.f (k : Nat) (l0 : List Int) : Option (Bool) := if (l0.length : Int) > 1048576 then (some true) else ((spec_DrawJournalText.f k l0).bind fun t618 => ((impl_JournalText.f k t618).bind fun t621 => ((spec_JournalText.f k t618).bind fun t622 => (if t621.toList = t622.toList then (if t621.toList = ([] : List UInt8) then ((laws_alive.f).bind fun t623 => (some t623)) else ((impl_ReadJournal.f k t621).bind fun bt624 => ((laws_sameDeeds.f k bt624.1 t618).bind fun t628 => (if t628 = true then (some (bt624.2 == (t621.size : Int))) else (some false))))) else (some false)))))
set_option maxHeartbeats 8000000 in
set_option maxRecDepth 100000 in
theorem laws_FnJournalText.calls (k : Nat) (A0 : Option Addr) (c0 : Nat) (l0 : List Int) (r : Bool) (w : World) (hr0 : Kd.C (Kd.int .u8) w A0 l0.length l0) (hc0 : l0.length ≤ c0) (hG : Glob w) (h : laws_FnJournalText.f k l0 = some r) :
    Calls Tryd.prog 6 #[.slice A0 l0.length c0] w fun e w' => e = .returned (.bool r) ∧ Below w.heap.size w w' := by
 have HG := Aside0.mk hG
 clear hG
 have HR0 := Aside0.mk hr0
 have HC0 := Aside0.mk hc0
 clear hr0 hc0
 have HB := Aside0.mk (Below.refl w.heap.size w)
 have H : (if (l0.length : Int) > 1048576 then (some true) else ((spec_DrawJournalText.f k l0).bind fun t618 => ((impl_JournalText.f k t618).bind fun t621 => ((spec_JournalText.f k t618).bind fun t622 => (if t621.toList = t622.toList then (if t621.toList = ([] : List UInt8) then ((laws_alive.f).bind fun t623 => (some t623)) else ((impl_ReadJournal.f k t621).bind fun bt624 => ((laws_sameDeeds.f k bt624.1 t618).bind fun t628 => (if t628 = true then (some (bt624.2 == (t621.size : Int))) else (some false))))) else (some false)))))) = some r := h
 clear h
 by_cases c2 : (l0.length : Int) > 1048576
 {
 rw [if_pos c2] at H
 have c2b0 : decide (1048576 < (l0.length : Int)) = true := decide_eq_true c2
 have c2b1 : decide (1048576 < l0.length) = true := decide_eq_true (by omega)
 clear c2
 obtain rfl := Option.some.inj H
 go_enter Tryd.func6, Tryd.ntmps6
 go_wp2
 go_ret
 exact ⟨zcj_13, zcj_5⟩
 }
 {
 rw [if_neg c2] at H
 have c2b0 : decide (1048576 < (l0.length : Int)) = false := decide_eq_false c2
 have c2b1 : decide (1048576 < l0.length) = false := decide_eq_false (by omega)
 clear c2
 replace H := Option.bind_eq_some_iff.mp H
 obtain ⟨t618, A30, H⟩ := H
 try dsimp only at H
 have A3 := Aside0.mk A30
 clear A30
 replace H := Option.bind_eq_some_iff.mp H
 obtain ⟨t621, A40, H⟩ := H
 try dsimp only at H
 have A4 := Aside0.mk A40
 clear A40
 replace H := Option.bind_eq_some_iff.mp H
 obtain ⟨t622, A50, H⟩ := H
 try dsimp only at H
 have A5 := Aside0.mk A50
 clear A50
 by_cases c6 : t621.toList = t622.toList
 {
 rw [if_pos c6] at H
 have c6b0 : (t621.toList == t622.toList) = true := beq_iff_eq.mpr c6
 have c6b1 : (t621.toList != t622.toList) = false := bne_eq_false_iff_eq.mpr c6
 clear c6
 by_cases c7 : t621.toList = ([] : List UInt8)
 {
 rw [if_pos c7] at H
 have c7b0 : (t621.toList == ([] : List UInt8)) = true := beq_iff_eq.mpr c7
 have c7b1 : (t621.toList != ([] : List UInt8)) = false := bne_eq_false_iff_eq.mpr c7
 clear c7
 replace H := Option.bind_eq_some_iff.mp H
 obtain ⟨t623, A80, H⟩ := H
 try dsimp only at H
 have A8 := Aside0.mk A80
 clear A80
 obtain rfl := Option.some.inj H
 go_enter Tryd.func6, Tryd.ntmps6
 go_wp2_with (first | ((with_reducible refine gate_callee (f := 19) rfl ?_); refine goesL_ (some 11) rfl rfl Tryd.func19 (by kernel_rfl) rfl #[.slice A0 l0.length c0] rfl zcj_3 ?_; (with_reducible refine (spec_DrawJournalText.calls k _ _ l0 t618 _ ?side1 ?side2 A3.out).mono ?_); (case side1 => exact zcj_45); (case side2 => exact HC0.out); rintro e w9 ⟨v619, rfl, ho0, hb⟩; refine ⟨_, rfl, ?_⟩; refine zcj_f5 ?_; clear HB; intro HO620 HB; (try clear hb); (try clear hb2); (try clear hk); (try clear hi); (try clear ho0); obtain ⟨Ao10, co10, eo10⟩ := Kd.R_slice HO620.out; subst eo10) | ((with_reducible refine gate_callee (f := 20) rfl ?_); refine goesL_ (some 13) rfl rfl Tryd.func20 (by kernel_rfl) rfl #[.slice Ao10 t618.length co10] rfl zcj_3 ?_; (with_reducible refine (impl_JournalText.calls k _ _ t618 t621 _ ?side1 ?side2 A4.out).mono ?_); (case side1 => exact zcj_48); (case side2 => exact zcj_49); rintro e w11 ⟨rfl, hb⟩; refine ⟨_, rfl, ?_⟩; refine zcj_f1 ?_; clear HO620; clear HB; intro HO620 HB; (try clear hb); (try clear hb2); (try clear hk); (try clear hi)) | ((with_reducible refine gate_callee (f := 21) rfl ?_); refine goesL_ (some 16) rfl rfl Tryd.func21 (by kernel_rfl) rfl #[.slice Ao10 t618.length co10] rfl zcj_3 ?_; (with_reducible refine (spec_JournalText.calls k _ _ t618 t622 _ ?side1 ?side2 A5.out).mono ?_); (case side1 => exact zcj_48); (case side2 => exact zcj_49); rintro e w12 ⟨rfl, hb⟩; refine ⟨_, rfl, ?_⟩; refine zcj_f1 ?_; clear HO620; clear HB; intro HO620 HB; (try clear hb); (try clear hb2); (try clear hk); (try clear hi)) | ((with_reducible refine gate_callee (f := 15) rfl ?_); refine goesL_ (some 20) rfl rfl Tryd.func15 (by kernel_rfl) rfl #[] rfl zcj_3 ?_; (with_reducible refine (laws_alive.calls  t623 _ A8.out).mono ?_); rintro e w' ⟨rfl, ⟨nd, rfl⟩⟩; refine ⟨_, rfl, ?_⟩))
 go_ret
 exact ⟨zcj_13, zcj_5⟩
 }
 {
 rw [if_neg c7] at H
 have c7b0 : (t621.toList == ([] : List UInt8)) = false := beq_eq_false_iff_ne.mpr c7
 have c7b1 : (t621.toList != ([] : List UInt8)) = true := bne_iff_ne.mpr c7
 replace H := Option.bind_eq_some_iff.mp H
 obtain ⟨⟨t624, t625⟩, A130, H⟩ := H
 try dsimp only at H
 have A13 := Aside0.mk A130
 clear A130
 replace H := Option.bind_eq_some_iff.mp H
 obtain ⟨t628, A140, H⟩ := H
 try dsimp only at H
 have A14 := Aside0.mk A140
 clear A140
 by_cases c15 : t628 = true
 {
 subst c15
 rw [if_pos rfl] at H
 obtain rfl := Option.some.inj H
 go_enter Tryd.func6, Tryd.ntmps6
 go_wp2_with (first | ((with_reducible refine gate_callee (f := 19) rfl ?_); refine goesL_ (some 11) rfl rfl Tryd.func19 (by kernel_rfl) rfl #[.slice A0 l0.length c0] rfl zcj_3 ?_; (with_reducible refine (spec_DrawJournalText.calls k _ _ l0 t618 _ ?side1 ?side2 A3.out).mono ?_); (case side1 => exact zcj_45); (case side2 => exact HC0.out); rintro e w16 ⟨v619, rfl, ho0, hb⟩; refine ⟨_, rfl, ?_⟩; refine zcj_f5 ?_; clear HB; intro HO620 HB; (try clear hb); (try clear hb2); (try clear hk); (try clear hi); (try clear ho0); obtain ⟨Ao17, co17, eo17⟩ := Kd.R_slice HO620.out; subst eo17) | ((with_reducible refine gate_callee (f := 20) rfl ?_); refine goesL_ (some 13) rfl rfl Tryd.func20 (by kernel_rfl) rfl #[.slice Ao17 t618.length co17] rfl zcj_3 ?_; (with_reducible refine (impl_JournalText.calls k _ _ t618 t621 _ ?side1 ?side2 A4.out).mono ?_); (case side1 => exact zcj_48); (case side2 => exact zcj_49); rintro e w18 ⟨rfl, hb⟩; refine ⟨_, rfl, ?_⟩; refine zcj_f1 ?_; clear HO620; clear HB; intro HO620 HB; (try clear hb); (try clear hb2); (try clear hk); (try clear hi)) | ((with_reducible refine gate_callee (f := 21) rfl ?_); refine goesL_ (some 16) rfl rfl Tryd.func21 (by kernel_rfl) rfl #[.slice Ao17 t618.length co17] rfl zcj_3 ?_; (with_reducible refine (spec_JournalText.calls k _ _ t618 t622 _ ?side1 ?side2 A5.out).mono ?_); (case side1 => exact zcj_48); (case side2 => exact zcj_49); rintro e w19 ⟨rfl, hb⟩; refine ⟨_, rfl, ?_⟩; refine zcj_f1 ?_; clear HO620; clear HB; intro HO620 HB; (try clear hb); (try clear hb2); (try clear hk); (try clear hi)) | ((with_reducible refine gate_callee (f := 8) rfl ?_); refine goesL_ (some 23) rfl rfl Tryd.func8 (by kernel_rfl) rfl #[.string t621] rfl zcj_3 ?_; (with_reducible refine (impl_ReadJournal.calls k t621 t624 t625 _ ?side1 A13.out).mono ?_); (case side1 => exact zcj_52); rintro e w20 ⟨v626, rfl, ho0, hb⟩; refine ⟨_, rfl, ?_⟩; refine zcj_f38 ?_; clear HO620; clear HB; intro HO620 HO627 HB; (try clear hb); (try clear hb2); (try clear hk); (try clear hi); (try clear ho0); obtain ⟨Ao21, co21, eo21⟩ := Kd.R_slice HO627.out; subst eo21) | ((with_reducible refine gate_callee (f := 22) rfl ?_); refine goesL_ (some 28) rfl rfl Tryd.func22 (by kernel_rfl) rfl #[.slice Ao21 t624.length co21, .slice Ao17 t618.length co17] rfl zcj_3 ?_; (with_reducible refine (laws_sameDeeds.calls k _ _ t624 _ _ t618 true _ ?side1 ?side2 ?side3 ?side4 A14.out).mono ?_); (case side1 => exact zcj_172); (case side2 => exact (Kd.R_reads' HO627.out).2.1); (case side3 => exact zcj_48); (case side4 => exact zcj_49); rintro e w' ⟨rfl, ⟨nd, rfl⟩⟩; refine ⟨_, rfl, ?_⟩))
 go_ret
 exact ⟨zcj_13, zcj_5⟩
 }
 {
 replace c15 := Bool.eq_false_iff.mpr c15
 subst c15
 rw [if_neg (show ¬ (false = true) by decide)] at H
 obtain rfl := Option.some.inj H
 go_enter Tryd.func6, Tryd.ntmps6
 go_wp2_with (first | ((with_reducible refine gate_callee (f := 19) rfl ?_); refine goesL_ (some 11) rfl rfl Tryd.func19 (by kernel_rfl) rfl #[.slice A0 l0.length c0] rfl zcj_3 ?_; (with_reducible refine (spec_DrawJournalText.calls k _ _ l0 t618 _ ?side1 ?side2 A3.out).mono ?_); (case side1 => exact zcj_45); (case side2 => exact HC0.out); rintro e w22 ⟨v619, rfl, ho0, hb⟩; refine ⟨_, rfl, ?_⟩; refine zcj_f5 ?_; clear HB; intro HO620 HB; (try clear hb); (try clear hb2); (try clear hk); (try clear hi); (try clear ho0); obtain ⟨Ao23, co23, eo23⟩ := Kd.R_slice HO620.out; subst eo23) | ((with_reducible refine gate_callee (f := 20) rfl ?_); refine goesL_ (some 13) rfl rfl Tryd.func20 (by kernel_rfl) rfl #[.slice Ao23 t618.length co23] rfl zcj_3 ?_; (with_reducible refine (impl_JournalText.calls k _ _ t618 t621 _ ?side1 ?side2 A4.out).mono ?_); (case side1 => exact zcj_48); (case side2 => exact zcj_49); rintro e w24 ⟨rfl, hb⟩; refine ⟨_, rfl, ?_⟩; refine zcj_f1 ?_; clear HO620; clear HB; intro HO620 HB; (try clear hb); (try clear hb2); (try clear hk); (try clear hi)) | ((with_reducible refine gate_callee (f := 21) rfl ?_); refine goesL_ (some 16) rfl rfl Tryd.func21 (by kernel_rfl) rfl #[.slice Ao23 t618.length co23] rfl zcj_3 ?_; (with_reducible refine (spec_JournalText.calls k _ _ t618 t622 _ ?side1 ?side2 A5.out).mono ?_); (case side1 => exact zcj_48); (case side2 => exact zcj_49); rintro e w25 ⟨rfl, hb⟩; refine ⟨_, rfl, ?_⟩; refine zcj_f1 ?_; clear HO620; clear HB; intro HO620 HB; (try clear hb); (try clear hb2); (try clear hk); (try clear hi)) | ((with_reducible refine gate_callee (f := 8) rfl ?_); refine goesL_ (some 23) rfl rfl Tryd.func8 (by kernel_rfl) rfl #[.string t621] rfl zcj_3 ?_; (with_reducible refine (impl_ReadJournal.calls k t621 t624 t625 _ ?side1 A13.out).mono ?_); (case side1 => exact zcj_52); rintro e w26 ⟨v626, rfl, ho0, hb⟩; refine ⟨_, rfl, ?_⟩; refine zcj_f38 ?_; clear HO620; clear HB; intro HO620 HO627 HB; (try clear hb); (try clear hb2); (try clear hk); (try clear hi); (try clear ho0); obtain ⟨Ao27, co27, eo27⟩ := Kd.R_slice HO627.out; subst eo27) | ((with_reducible refine gate_callee (f := 22) rfl ?_); refine goesL_ (some 28) rfl rfl Tryd.func22 (by kernel_rfl) rfl #[.slice Ao27 t624.length co27, .slice Ao23 t618.length co23] rfl zcj_3 ?_; (with_reducible refine (laws_sameDeeds.calls k _ _ t624 _ _ t618 false _ ?side1 ?side2 ?side3 ?side4 A14.out).mono ?_); (case side1 => exact zcj_172); (case side2 => exact (Kd.R_reads' HO627.out).2.1); (case side3 => exact zcj_48); (case side4 => exact zcj_49); rintro e w' ⟨rfl, ⟨nd, rfl⟩⟩; refine ⟨_, rfl, ?_⟩))
 go_ret
 exact ⟨zcj_13, zcj_5⟩
 }
 }
 }
 {
 rw [if_neg c6] at H
 have c6b0 : (t621.toList == t622.toList) = false := beq_eq_false_iff_ne.mpr c6
 have c6b1 : (t621.toList != t622.toList) = true := bne_iff_ne.mpr c6
 obtain rfl := Option.some.inj H
 go_enter Tryd.func6, Tryd.ntmps6
 go_wp2_with (first | ((with_reducible refine gate_callee (f := 19) rfl ?_); refine goesL_ (some 11) rfl rfl Tryd.func19 (by kernel_rfl) rfl #[.slice A0 l0.length c0] rfl zcj_3 ?_; (with_reducible refine (spec_DrawJournalText.calls k _ _ l0 t618 _ ?side1 ?side2 A3.out).mono ?_); (case side1 => exact zcj_45); (case side2 => exact HC0.out); rintro e w28 ⟨v619, rfl, ho0, hb⟩; refine ⟨_, rfl, ?_⟩; refine zcj_f5 ?_; clear HB; intro HO620 HB; (try clear hb); (try clear hb2); (try clear hk); (try clear hi); (try clear ho0); obtain ⟨Ao29, co29, eo29⟩ := Kd.R_slice HO620.out; subst eo29) | ((with_reducible refine gate_callee (f := 20) rfl ?_); refine goesL_ (some 13) rfl rfl Tryd.func20 (by kernel_rfl) rfl #[.slice Ao29 t618.length co29] rfl zcj_3 ?_; (with_reducible refine (impl_JournalText.calls k _ _ t618 t621 _ ?side1 ?side2 A4.out).mono ?_); (case side1 => exact zcj_48); (case side2 => exact zcj_49); rintro e w30 ⟨rfl, hb⟩; refine ⟨_, rfl, ?_⟩; refine zcj_f1 ?_; clear HO620; clear HB; intro HO620 HB; (try clear hb); (try clear hb2); (try clear hk); (try clear hi)) | ((with_reducible refine gate_callee (f := 21) rfl ?_); refine goesL_ (some 16) rfl rfl Tryd.func21 (by kernel_rfl) rfl #[.slice Ao29 t618.length co29] rfl zcj_3 ?_; (with_reducible refine (spec_JournalText.calls k _ _ t618 t622 _ ?side1 ?side2 A5.out).mono ?_); (case side1 => exact zcj_48); (case side2 => exact zcj_49); rintro e w31 ⟨rfl, hb⟩; refine ⟨_, rfl, ?_⟩; refine zcj_f1 ?_; clear HO620; clear HB; intro HO620 HB; (try clear hb); (try clear hb2); (try clear hk); (try clear hi)))
 go_ret
 exact ⟨zcj_13, zcj_5⟩
 }
 }
end Go.Proofs.YtnkfbappnpnaoaaDoor.Q
namespace Go.Proofs.YtnkfbappnpnaoaaDoor.Q
open Go.RowKit Go.Proofs.YtnkfbappnpnaoaaDoorW.PrintWords Go.Proofs.YtnkfbappnpnaoaaDoorW.PrintLast Go.Proofs.YtnkfbappnpnaoaaDoorW.PrintMore
attribute [local go_sem] max2_int min2_int max_two min_two max_three min_three max_four min_four   -- for this text's walks alone
set_option linter.unusedVariables false
set_option linter.unusedSimpArgs false
def Rd (n : Nat) (L : List S30) : Prop := L.length ≤ n ∧ ∀ d ∈ L, d.f3.size ≤ 45
theorem Rd.add {n : Nat} {L : List S30} (h : Rd n L) {d : S30} (hd : d.f3.size ≤ 45) : Rd (n + 1) (L ++ [d]) := by
  refine ⟨by have := h.1; simp; omega, fun x hx => ?_⟩
  rcases List.mem_append.1 hx with hx | hx
  · exact h.2 x hx
  · simp at hx
    subst hx
    exact hd
theorem deeds_loop {l : List Int} (hl : Bytes l) (people : Int) (bs : List Int) (rs : List ByteArray) (hb : Bodies bs) (hr : rs.length ≤ 1000000) : ∀ (n : Nat) (left p : Int) (L : List S30) (m : Nat), left = n → 0 ≤ p → p + 40 * n ≤ 500000000 → n + m ≤ 1000 → Rd m L →
    Tot (fun k => spec_l20Deeds.l0 k L left l p people bs rs) (fun r => Rd (m + n) r.1 ∧ p ≤ r.2 ∧ r.2 ≤ p + 40 * n)
  | 0, left, p, L, m, hn, h0, h1, _, hL => by
    refine Tot.unf ?_
    simp only [spec_l20Deeds.l0]
    exact Tot.no (by omega) (Tot.pure ⟨hL, Int.le_refl _, by simp⟩)
  | n + 1, left, p, L, m, hn, h0, h1, hm, hL => by
    have hL1 := hL.1
    refine Tot.unf ?_
    simp only [spec_l20Deeds.l0]
    refine Tot.yes (by omega) (Tot.bind (deed_draw hl people bs rs hb hr h0 (by omega)) ?_)
    rintro ⟨k0, a, b, z, q⟩ ⟨hz, hq0, hq1⟩
    simp only at hz hq0 hq1 ⊢
    refine Tot.yes (by omega) ?_
    rw [w64 (left - 1) (by omega) (by omega)]
    have ih := deeds_loop hl people bs rs hb hr n (left - 1) q (L ++ [⟨k0, a, b, z⟩]) (m + 1) (by omega) (by omega) (by omega) (by omega) (hL.add hz)
    exact ih.mono (fun r hr => ⟨by rw [show m + (n + 1) = m + 1 + n by omega]; exact hr.1, by omega, by omega⟩)
theorem deeds_draw {l : List Int} (hl : Bytes l) (people : Int) (bs : List Int) (rs : List ByteArray) (hb : Bodies bs) (hr : rs.length ≤ 1000000) {p : Int} (h0 : 0 ≤ p) (h1 : p ≤ 400000000) :
    Tot (fun k => spec_l20Deeds.f k l p people bs rs) (fun r => Rd 6 r.1 ∧ p ≤ r.2 ∧ r.2 ≤ p + 300) := by
  unfold spec_l20Deeds.f
  refine Tot.bind (pick_tot hl h0 (by omega) (by omega)) ?_
  rintro ⟨a, q⟩ ⟨a0, a1, _, hq⟩
  have a2 := a1 (by omega)
  simp only at a0 a2 hq ⊢
  refine (deeds_loop hl people bs rs hb hr a.toNat a q [] 0 (by omega) (by omega) (by omega) (by omega) ⟨by simp, by simp⟩).mono (fun r hr => ⟨⟨by have := hr.1.1; omega, hr.1.2⟩, by omega, by omega⟩)
def Wr (L : List S30) : Prop := ∀ d ∈ L, (dText d.f0 d.f1 d.f2 d.f3).toList ≠ []
theorem written_loop {l : List Int} (p : Int) (L : List S30) (hL : Rd 6 L) : ∀ (n i : Nat) (M : List S30), L.length - i = n → i ≤ L.length → M.length ≤ i → Wr M → (∀ d ∈ M, d.f3.size ≤ 45) →
    Tot (fun k => spec_l20Written.l0 k M L (i : Int) l p) (fun r => Rd 6 r.1 ∧ Wr r.1 ∧ r.2 = p)
  | 0, i, M, hn, hi, hm, hw, hs => by
    have hL1 := hL.1
    refine Tot.unf ?_
    simp only [spec_l20Written.l0]
    exact Tot.no (by omega) (Tot.pure ⟨⟨by show M.length ≤ 6; omega, hs⟩, hw, rfl⟩)
  | n + 1, i, M, hn, hi, hm, hw, hs => by
    have hL1 := hL.1
    have hlt : i < L.length := by omega
    have hrd : rd_T30 L (i : Int) = L[i] := by simp [rd_T30, List.getD_eq_getElem?_getD, hlt]
    have hz := hL.2 _ (List.getElem_mem hlt)
    refine Tot.unf ?_
    simp only [spec_l20Written.l0, hrd, wr_1 i (show i < 4294967296 by omega)]
    generalize L[i] = d at hz
    refine Tot.yes (by omega) (Tot.yes (by omega) (Tot.bind (deedText_tot d.f0 d.f1 d.f2 d.f3 (by omega)) ?_))
    rintro t rfl
    refine Tot.ite (fun _ => written_loop p L hL n (i + 1) M (by omega) (by omega) (by omega) hw hs) (fun hne => Tot.yes (by omega) ?_)
    refine written_loop p L hL n (i + 1) (M ++ [⟨d.f0, d.f1, d.f2, d.f3⟩]) (by omega) (by omega) (by simp; omega) ?_ ?_
    · intro x hx
      rcases List.mem_append.1 hx with hx | hx
      · exact hw x hx
      · simp at hx
        subst hx
        exact hne
    · intro x hx
      rcases List.mem_append.1 hx with hx | hx
      · exact hs x hx
      · simp at hx
        subst hx
        exact hz
theorem written_draw {l : List Int} (hl : Bytes l) {p : Int} (h0 : 0 ≤ p) (h1 : p ≤ 300000000) : Tot (fun k => spec_l20Written.f k l p) (fun r => Rd 6 r.1 ∧ Wr r.1 ∧ p ≤ r.2 ∧ r.2 ≤ p + 400) := by
  unfold spec_l20Written.f
  refine Tot.bind (place_draw hl h0 (by omega)) ?_
  rintro ⟨people, bs, rs, q⟩ ⟨⟨hp, hbl, hbs, hrl, _⟩, hq0, hq1⟩
  simp only at hp hbl hbs hrl hq0 hq1 ⊢
  refine Tot.bind (deeds_draw hl people bs rs (bodies_of hbl.2 hbs) (by omega) (by omega) (by omega)) ?_
  rintro ⟨L, q2⟩ ⟨hL, hq2, hq3⟩
  simp only at hL hq2 hq3 ⊢
  exact (written_loop q2 L hL L.length 0 [] (by omega) (Nat.zero_le _) (Nat.le_refl _) (by simp [Wr]) (by simp)).mono (fun r hr => ⟨hr.1, hr.2.1, by rw [hr.2.2]; omega, by rw [hr.2.2]; omega⟩)
theorem drawJournal_tot {l : List Int} (hl : ∀ x ∈ l, 0 ≤ x ∧ x ≤ 255) : Tot (fun k => spec_DrawJournalText.f k l) (fun L => Rd 7 L ∧ (Wr L ∨ ∃ M : List S30, L = M ++ [⟨9, 0, 0, ⟨#[]⟩⟩] ∧ Wr M)) := by
  obtain ⟨b, hb, hB⟩ := open_tot hl
  unfold spec_DrawJournalText.f
  simp only [hb, Option.bind_some]
  refine Tot.bind (written_draw hB (Int.le_refl _) (by omega)) ?_
  rintro ⟨L, q⟩ ⟨hL, hW, hq0, hq1⟩
  simp only at hL hW hq0 hq1 ⊢
  have hL1 := hL.1
  refine Tot.bind (odd_tot hB hq0 (by omega) (by omega)) ?_
  rintro ⟨o, q2⟩ _
  refine Tot.ite (fun _ => Tot.yes (by omega) (Tot.pure ⟨hL.add (by show (⟨#[]⟩ : ByteArray).size ≤ 45; decide), Or.inr ⟨L, rfl, hW⟩⟩)) (fun _ => Tot.pure ⟨⟨by show L.length ≤ 7; omega, hL.2⟩, Or.inl hW⟩)
def dT (d : S30) : ByteArray := dText d.f0 d.f1 d.f2 d.f3
def linesJ : List S30 → Option ByteArray
  | [] => some ⟨#[]⟩
  | d :: r => if (dT d).toList = [] then none else (linesJ r).map fun t => (dT d ++ (⟨#[10]⟩ : ByteArray)) ++ t
def textJ (x : ByteArray) (L : List S30) : ByteArray := match linesJ L with
  | none => ⟨#[]⟩
  | some t => x ++ t
theorem app_assoc (a b c : ByteArray) : (a ++ b) ++ c = a ++ (b ++ c) := toList_inj (by simp only [app_toList, List.append_assoc])
theorem nl_size : (⟨#[10]⟩ : ByteArray).size = 1 := rfl
theorem dT_size (d : S30) (h : d.f3.size ≤ 1048576) : (dT d).size ≤ 1048588 := by
  have := dText_size d.f0 d.f1 d.f2 d.f3
  unfold dT
  omega
theorem textJ_cons (x : ByteArray) (d : S30) (r : List S30) (h : ¬ (dT d).toList = []) : textJ x (d :: r) = textJ ((x ++ dT d) ++ (⟨#[10]⟩ : ByteArray)) r := by
  have e : linesJ (d :: r) = (linesJ r).map fun t => (dT d ++ (⟨#[10]⟩ : ByteArray)) ++ t := by rw [linesJ, if_neg h]
  unfold textJ
  rw [e]
  cases linesJ r with
  | none => rfl
  | some t => simp only [Option.map_some, app_assoc]
theorem jt_impl (L : List S30) (hs : ∀ d ∈ L, d.f3.size ≤ 1048576) (hlen : L.length ≤ 1048576) : ∀ (n i : Nat) (x : ByteArray), L.length - i = n → i ≤ L.length → x.size + n * 2000000 ≤ 4000000000000 → Ev (fun k => impl_JournalText.l0 k x L (L.length : Int) (i : Int)) (textJ x (L.drop i))
  | 0, i, x, hn, hi, hx => by
    rw [List.drop_eq_nil_of_le (by omega)]
    have e : textJ x [] = x := toList_inj zcj_173
    rw [e]
    refine Ev.succ (g := fun _ => some x) (fun k => ?_) (Ev.const _)
    rw [impl_JournalText.l0, if_neg (by omega)]
  | n + 1, i, x, hn, hi, hx => by
    have hlt : i < L.length := by omega
    have hrd : rd_T30 L (i : Int) = L[i] := rd_at L i hlt
    have hz := hs _ (List.getElem_mem hlt)
    rw [List.drop_eq_getElem_cons hlt]
    have hw := wr_1 i (by omega)
    generalize L[i] = d at hz hrd
    have hd := dT_size d hz
    have hE := deedTextM_eq d.f0 d.f1 d.f2 d.f3 (by omega)
    refine Ev.succ (g := fun k => if (dT d).toList = ([] : List UInt8) then (some (⟨#[]⟩ : ByteArray)) else (if (dT d).size + 1 ≤ 9223372036854775807 then (if x.size + (dT d ++ (⟨#[10]⟩ : ByteArray)).size ≤ 9223372036854775807 then (impl_JournalText.l0 k (x ++ (dT d ++ (⟨#[10]⟩ : ByteArray))) L (L.length : Int) ((i + 1 : Nat) : Int)) else (none)) else (none))) (fun k => ?_) ?_
    · rw [impl_JournalText.l0, if_pos (by omega), if_pos (by omega), if_pos (by omega), hrd, hE, Option.bind_some, hw]
      rfl
    · by_cases h : (dT d).toList = []
      · simp only [if_pos h]
        have e : textJ x (d :: L.drop (i + 1)) = ⟨#[]⟩ := by
          unfold textJ linesJ
          rw [if_pos h]
        rw [e]
        exact Ev.const _
      · have hsz : (dT d ++ (⟨#[10]⟩ : ByteArray)).size = (dT d).size + 1 := by rw [app_size, nl_size]
        simp only [if_neg h, if_pos (show (dT d).size + 1 ≤ 9223372036854775807 by omega), hsz, if_pos (show x.size + ((dT d).size + 1) ≤ 9223372036854775807 by omega)]
        rw [textJ_cons x d _ h, app_assoc]
        exact jt_impl L hs hlen n (i + 1) _ (by omega) (by omega) (by rw [app_size, hsz]; omega)
theorem jt_spec (L : List S30) (hs : ∀ d ∈ L, d.f3.size ≤ 1048576) (hlen : L.length ≤ 1048576) : ∀ (n i : Nat) (x : ByteArray), L.length - i = n → i ≤ L.length → x.size + n * 2000000 ≤ 4000000000000 → Ev (fun k => spec_JournalText.l0 k L x (i : Int)) (textJ x (L.drop i))
  | 0, i, x, hn, hi, hx => by
    rw [List.drop_eq_nil_of_le (by omega)]
    have e : textJ x [] = x := toList_inj zcj_173
    rw [e]
    refine Ev.succ (g := fun _ => some x) (fun k => ?_) (Ev.const _)
    rw [spec_JournalText.l0, if_neg (by omega)]
  | n + 1, i, x, hn, hi, hx => by
    have hlt : i < L.length := by omega
    have hrd : rd_T30 L (i : Int) = L[i] := rd_at L i hlt
    have hz := hs _ (List.getElem_mem hlt)
    rw [List.drop_eq_getElem_cons hlt]
    have hw := wr_1 i (by omega)
    generalize L[i] = d at hz hrd
    have hd := dT_size d hz
    have hE := specDeedText_ev d.f0 d.f1 d.f2 d.f3 (by omega)
    refine Ev.succ (g := fun k => (spec_DeedText.f k d.f0 d.f1 d.f2 d.f3).bind fun t613 => (if t613.toList = ([] : List UInt8) then (some (⟨#[]⟩ : ByteArray)) else ((spec_DeedText.f k d.f0 d.f1 d.f2 d.f3).bind fun t615 => (if x.size + t615.size ≤ 9223372036854775807 then (if (x ++ t615).size + 1 ≤ 9223372036854775807 then (spec_JournalText.l0 k L ((x ++ t615) ++ (⟨#[10]⟩ : ByteArray)) ((i + 1 : Nat) : Int)) else (none)) else (none))))) (fun k => ?_) ?_
    · rw [spec_JournalText.l0, if_pos (by omega), if_pos (by omega), hrd, hw]
    · refine Ev.bind hE ?_
      change Ev (fun k => if (dT d).toList = ([] : List UInt8) then (some (⟨#[]⟩ : ByteArray)) else _) _
      by_cases h : (dT d).toList = []
      · simp only [if_pos h]
        have e : textJ x (d :: L.drop (i + 1)) = ⟨#[]⟩ := by
          unfold textJ linesJ
          rw [if_pos h]
        rw [e]
        exact Ev.const _
      · simp only [if_neg h]
        refine Ev.bind hE ?_
        change Ev (fun k => if x.size + (dT d).size ≤ 9223372036854775807 then (if (x ++ dT d).size + 1 ≤ 9223372036854775807 then (spec_JournalText.l0 k L ((x ++ dT d) ++ (⟨#[10]⟩ : ByteArray)) ((i + 1 : Nat) : Int)) else (none)) else (none)) _
        have hsz : (x ++ dT d).size = x.size + (dT d).size := app_size _ _
        simp only [hsz, if_pos (show x.size + (dT d).size ≤ 9223372036854775807 by omega), if_pos (show x.size + (dT d).size + 1 ≤ 9223372036854775807 by omega)]
        rw [textJ_cons x d _ h]
        exact jt_spec L hs hlen n (i + 1) _ (by omega) (by omega) (by rw [app_size, app_size, nl_size]; omega)
def jText (L : List S30) : ByteArray := textJ ⟨#[]⟩ L
theorem jText_impl (L : List S30) (hs : ∀ d ∈ L, d.f3.size ≤ 1048576) (hlen : L.length ≤ 1048576) : Ev (fun k => impl_JournalText.f k L) (jText L) := by
  have := jt_impl L hs hlen L.length 0 ⟨#[]⟩ rfl (Nat.zero_le _) (by have : (⟨#[]⟩ : ByteArray).size = 0 := rfl; omega)
  rw [List.drop_zero] at this
  exact this
theorem jText_spec (L : List S30) (hs : ∀ d ∈ L, d.f3.size ≤ 1048576) (hlen : L.length ≤ 1048576) : Ev (fun k => spec_JournalText.f k L) (jText L) := by
  have := jt_spec L hs hlen L.length 0 ⟨#[]⟩ rfl (Nat.zero_le _) (by have : (⟨#[]⟩ : ByteArray).size = 0 := rfl; omega)
  rw [List.drop_zero] at this
  exact this
theorem dText_nonl {k a b : Int} {z s : ByteArray} (h : dText k a b z = s) (hs : s.toList ≠ []) : (10 : UInt8) ∉ s.toList := by
  obtain ⟨⟨ha0, ha1, hb0, hb1⟩, hc⟩ := dText_cases h hs
  have hna := num2_nonl ⟨a.toNat, by omega⟩
  have hnb := num2_nonl ⟨b.toNat, by omega⟩
  simp only at hna hnb
  have hz : plainB z = true → (10 : UInt8) ∉ z.toList := by
    intro hp hm
    unfold plainB at hp
    simp at hp
    have := hp.2 _ hm
    simp [isGap] at this
  have e : ∀ l : List UInt8, (⟨l.toArray⟩ : ByteArray).toList = l := bs_toList
  rcases hc with ⟨rfl, rfl, rfl, rfl⟩ | ⟨rfl, rfl, rfl, hp, rfl⟩ | ⟨rfl, hp, rfl⟩ | ⟨rfl, rfl, rfl⟩ | ⟨rfl, rfl, rfl, rfl, rfl⟩
  · rw [app_toList, numB_toList, show (⟨#[98, 111, 100, 121, 32]⟩ : ByteArray).toList = [98, 111, 100, 121, 32] from e _]
    simp only [List.mem_append, not_or]
    exact ⟨by decide, hna⟩
  · rw [app_toList, show (⟨#[114, 117, 108, 101, 32]⟩ : ByteArray).toList = [114, 117, 108, 101, 32] from e _]
    simp only [List.mem_append, not_or]
    exact ⟨by decide, hz hp⟩
  · simp only [app_toList, numB_toList]
    rw [show (⟨#[97, 109, 101, 110, 100, 32]⟩ : ByteArray).toList = [97, 109, 101, 110, 100, 32] from e _, show (⟨#[32]⟩ : ByteArray).toList = [32] from e _]
    simp only [List.mem_append, not_or]
    exact ⟨⟨⟨⟨⟨by decide, hna⟩, by decide⟩, hnb⟩, by decide⟩, hz hp⟩
  · simp only [app_toList, numB_toList]
    rw [show (⟨#[100, 114, 111, 112, 32]⟩ : ByteArray).toList = [100, 114, 111, 112, 32] from e _, show (⟨#[32]⟩ : ByteArray).toList = [32] from e _]
    simp only [List.mem_append, not_or]
    exact ⟨⟨⟨by decide, hna⟩, by decide⟩, hnb⟩
  · rw [show (⟨#[98, 97, 99, 107]⟩ : ByteArray).toList = [98, 97, 99, 107] from e _]
    decide
theorem linesJ_size : ∀ (L : List S30) (t : ByteArray), linesJ L = some t → (∀ d ∈ L, d.f3.size ≤ 45) → t.size ≤ 60 * L.length ∧ L.length ≤ t.size
  | [], t, h, _ => by
    simp [linesJ] at h
    subst h
    exact ⟨by decide, by decide⟩
  | d :: r, t, h, hs => by
    unfold linesJ at h
    split at h
    · simp at h
    · cases hr : linesJ r with
      | none => simp [hr] at h
      | some u =>
        simp [hr] at h
        subst h
        have ih := linesJ_size r u hr (fun x hx => hs x (by simp [hx]))
        have h1 := dText_size d.f0 d.f1 d.f2 d.f3
        have h2 := hs d (by simp)
        rw [app_size, app_size, nl_size]
        unfold dT
        simp only [List.length_cons]
        omega
theorem read_lines (s : ByteArray) (hs : s.size ≤ 1048576) : ∀ (L : List S30) (t : ByteArray) (out : List S30) (fr : Nat), linesJ L = some t → (∀ d ∈ L, d.f3.size ≤ 45) → s.toList.drop fr = t.toList → fr ≤ s.size → out.length ≤ fr →
    Ev (fun k => impl_readJournal.l0 k s out (fr : Int)) (out ++ L, (s.size : Int))
  | [], t, out, fr, h, _, hd, hf, ho => by
    simp [linesJ] at h
    subst h
    rw [show (⟨#[]⟩ : ByteArray).toList = [] from bs_toList []] at hd
    have e : fr = s.size := by
      have := congrArg List.length hd
      rw [List.length_drop, toList_len] at this
      simp at this
      omega
    subst e
    refine Ev.succ (impl_step_none s hs out s.size (Nat.le_refl _) (by rw [hd]; rfl)) ?_
    rw [List.append_nil]
    exact Ev.const _
  | d :: r, t, out, fr, h, hz, hd, hf, ho => by
    unfold linesJ at h
    split at h
    · simp at h
    rename_i hne
    cases hr : linesJ r with
    | none => simp [hr] at h
    | some u =>
      simp [hr] at h
      subst h
      have hz0 := hz d (by simp)
      have hT : (dT d).toList.length = (dT d).size := toList_len _
      have hd2 : s.toList.drop fr = (dT d).toList ++ (10 :: u.toList) := by
        rw [hd, app_toList, app_toList, show (⟨#[10]⟩ : ByteArray).toList = [10] from bs_toList [10]]
        simp
      have hlen := congrArg List.length hd2
      rw [List.length_drop, toList_len, List.length_append, hT] at hlen
      simp only [List.length_cons] at hlen
      have hnl : (10 : UInt8) ∉ (dT d).toList := dText_nonl rfl hne
      have hi : Lib.indexByte (s.toList.drop fr) 10 = ((dT d).size : Int) := by
        rw [hd2, indexByte_at _ hnl, hT]
      have hx : s.extract fr (fr + (dT d).size) = dT d := by
        apply toList_inj
        rw [ext_toList, List.drop_take, hd2, show fr + (dT d).size - fr = (dT d).size by omega, ← hT, List.take_left' rfl]
      have h12 := dText_size d.f0 d.f1 d.f2 d.f3
      have hR := readDeed_hit d.f0 d.f1 d.f2 d.f3 (dT d) (by unfold dT; omega) rfl hne (by omega)
      have hs1 := impl_step_at s hs out fr (dT d).size (by omega) ho hi _ (by rw [hx]; exact hR)
      refine Ev.succ hs1 ?_
      simp only [if_true]
      have ih := read_lines s hs r u (out ++ [d]) (fr + (dT d).size + 1) hr (fun x hx => hz x (by simp [hx])) (by
        rw [show fr + (dT d).size + 1 = fr + ((dT d).size + 1) by omega, ← List.drop_drop, hd2, ← hT, List.drop_append, List.drop_eq_nil_of_le (by omega)]
        simp) (by omega) (by simp; omega)
      rw [List.append_assoc] at ih
      exact ih
theorem sameDeeds_loop (L : List S30) (hL : L.length ≤ 1048576) : ∀ (n i : Nat), L.length - i = n → i ≤ L.length → Ev (fun k => laws_sameDeeds.l0 k L L (i : Int)) true
  | 0, i, hn, hi => by
    refine Ev.succ (g := fun _ => some true) (fun k => ?_) (Ev.const _)
    rw [laws_sameDeeds.l0, if_neg (by omega)]
  | n + 1, i, hn, hi => by
    have hlt : i < L.length := by omega
    refine Ev.succ (g := fun k => laws_sameDeeds.l0 k L L ((i + 1 : Nat) : Int)) (fun k => ?_) (sameDeeds_loop L hL n (i + 1) (by omega) (by omega))
    rw [laws_sameDeeds.l0, if_pos (by omega), if_pos (by omega), if_pos (by omega), wr_1 i (by omega), if_neg (by simp)]
theorem sameDeeds_refl (L : List S30) (hL : L.length ≤ 1048576) : Ev (fun k => laws_sameDeeds.f k L L) true := by
  unfold laws_sameDeeds.f
  simp only [if_true]
  exact sameDeeds_loop L hL L.length 0 rfl (Nat.zero_le _)
theorem law_FnJournalText (l : List Int) (hl : ∀ x ∈ l, 0 ≤ x ∧ x ≤ 255) : Ev (fun k => laws_FnJournalText.f k l) true := by
  refine Tot.eq ?_
  unfold laws_FnJournalText.f
  refine Tot.ite (fun _ => Tot.pure rfl) (fun _ => Tot.bind (drawJournal_tot hl) ?_)
  rintro L ⟨hL, _⟩
  have hL1 := hL.1
  have hz : ∀ d ∈ L, d.f3.size ≤ 1048576 := fun d hd => by have := hL.2 d hd; omega
  refine Tot.bind (Tot.ev (P := fun t => t = jText L) (jText_impl L hz (by omega)) rfl) ?_
  rintro t rfl
  refine Tot.bind (Tot.ev (P := fun t => t = jText L) (jText_spec L hz (by omega)) rfl) ?_
  rintro t rfl
  refine Tot.yes (by trivial) (Tot.ite (fun _ => by rw [alive_eq]; exact Tot.pure rfl) (fun hne => ?_))
  cases hj : linesJ L with
  | none =>
    exfalso
    apply hne
    unfold jText textJ
    rw [hj]
    exact bs_toList []
  | some u =>
    have e : jText L = u := by
      unfold jText textJ
      rw [hj]
      exact toList_inj (by rw [app_toList, show (⟨#[]⟩ : ByteArray).toList = [] from bs_toList []]; rfl)
    have hsz := linesJ_size L u hj hL.2
    have hR := read_lines u (by omega) L u [] 0 hj hL.2 (by rw [List.drop_zero]) (Nat.zero_le _) (Nat.le_refl _)
    rw [e]
    have hR2 : Ev (fun k => impl_ReadJournal.f k u) (L, (u.size : Int)) := by
      unfold impl_ReadJournal.f
      exact Ev.bind (f := fun k => impl_readJournal.f k u) hR (Ev.const _)
    refine Tot.bind (Tot.ev (P := fun r => r = (L, (u.size : Int))) hR2 rfl) ?_
    rintro r rfl
    refine Tot.bind (Tot.ev (P := fun r => r = true) (sameDeeds_refl L (by omega)) rfl) ?_
    rintro r rfl
    exact Tot.yes rfl (Tot.pure (by simp))
end Go.Proofs.YtnkfbappnpnaoaaDoor.Q
namespace Go.Proofs.YtnkfbappnpnaoaaDoor.Q
open Go.RowKit Go.Proofs.YtnkfbappnpnaoaaDoorW.PrintWords Go.Proofs.YtnkfbappnpnaoaaDoorW.PrintLast Go.Proofs.YtnkfbappnpnaoaaDoorW.PrintMore
attribute [local go_sem] max2_int min2_int max_two min_two max_three min_three max_four min_four   -- for this text's walks alone
set_option linter.unusedVariables false
set_option linter.unusedSimpArgs false
theorem laid_at {P : Program} {w : World} : ∀ {l : List (String × DataW Unit)} {ps : List MemPlace} (i : Nat) {n : String} {d : DataW Unit}, DataW.LaidVars P w l ps → l[i]? = some (n, d) →
    ∃ g t cs fuel p, P.globalNamed n = some g ∧ (P.globals[g]?).map (·.type) = some t ∧ w.var? P n = some cs ∧ DataW.trod (fun _ => ()) P w 0 (fun _ => true) false fuel t cs.toList = some (d, p)
  | [], _, i, _, _, _, h => by simp at h
  | (n', d') :: r, ps, 0, n, d, hl, h => by
    obtain ⟨g, t, cs, fuel, p, q, h1, h2, h3, h4, _, _⟩ := hl
    simp at h
    obtain ⟨rfl, rfl⟩ := h
    exact ⟨g, t, cs, fuel, p, h1, h2, h3, h4⟩
  | (n', d') :: r, ps, i + 1, n, d, hl, h => by
    obtain ⟨g, t, cs, fuel, p, q, h1, h2, h3, h4, h5, _⟩ := hl
    exact laid_at i h5 (by simpa using h)
end Go.Proofs.YtnkfbappnpnaoaaDoor.Q
namespace Go.Proofs.YtnkfbappnpnaoaaDoor.Q
open Go.RowKit Go.Proofs.YtnkfbappnpnaoaaDoorW.PrintWords Go.Proofs.YtnkfbappnpnaoaaDoorW.PrintLast Go.Proofs.YtnkfbappnpnaoaaDoorW.PrintMore
attribute [local go_sem] max2_int min2_int max_two min_two max_three min_three max_four min_four   -- for this text's walks alone
set_option linter.unusedVariables false
set_option linter.unusedSimpArgs false
theorem tab_at {P : Program} {W : World} {name : String} {k : IntKind} {zs : List Int} {l : List (String × DataW Unit)} (i : Nat) {ps : List MemPlace} {g : Nat} {t e : TypeId} {n : Nat}
    (hl : DataW.LaidVars P W l ps) (hi : l[i]? = some (name, Lib.tabData k zs))
    (hg : P.globalNamed name = some g) (hty : (P.globals[g]?).map (·.type) = some t) (ht : P.underlying t = some (.array n e)) (he : P.underlying e = some (.int k)) (hce : P.cellsOf e = 1) (hct : P.cellsOf t = n) : Lib.TabIs P W name k zs := by
  obtain ⟨g', t', cs, fuel, p, hg', ht', hvar, hd⟩ := laid_at i hl hi
  obtain rfl := Option.some.inj (hg.symm.trans hg')
  obtain rfl := Option.some.inj (hty.symm.trans ht')
  unfold Lib.TabIs
  rw [hvar, ← Lib.cells_of_tab ht he hce hct hd]
theorem iface_at {P : Program} {W : World} {name tn : String} {d : DataW Unit} {l : List (String × DataW Unit)} (i : Nat) {ps : List MemPlace} {g : Nat} {t : TypeId} {ms : Array (String × TypeId)}
    (hl : DataW.LaidVars P W l ps) (hi : l[i]? = some (name, .iface tn d)) (hg : P.globalNamed name = some g) (hty : (P.globals[g]?).map (·.type) = some t) (ht : P.underlying t = some (.interface ms)) : ∃ te pe, W.cell? ⟨g, 0, none⟩ = some (.iface te pe) := by
  obtain ⟨g', t', cs, fuel, p, hg', ht', hvar, hd⟩ := laid_at i hl hi
  obtain rfl := Option.some.inj (hg.symm.trans hg')
  obtain rfl := Option.some.inj (hty.symm.trans ht')
  obtain ⟨_, u, v, hcs, _, _⟩ := iface_of_trod ht hd
  refine ⟨u, v, ?_⟩
  have := World.var?_cell hg hvar 0
  rw [this, ← Array.getElem?_toList, hcs]
  rfl
theorem glob_of {W : World} {l : List (String × DataW Unit)} (hL : laidMet Tryd.prog l W) (hsh : W.ShapedOpen Tryd.prog)
    (h2 : l[2]? = some ("internal/strconv.uint64pow10", Lib.tabData .u64 Lib.pow10Tab)) (h4 : ∃ d, l[4]? = some ("strconv.ErrRange", .iface "*errors.errorString" d)) (h5 : ∃ d, l[5]? = some ("strconv.ErrSyntax", .iface "*errors.errorString" d)) : Glob W := by
  obtain ⟨ps, hl, _⟩ := hL
  obtain ⟨d4, h4⟩ := h4
  obtain ⟨d5, h5⟩ := h5
  refine ⟨?_, ?_, ?_, ?_⟩
  · exact Go.Proofs.cell_of_shapedOpen_int (zero := #[.int .i64 0]) (t := 3) hsh (of_decide_eq_true (by kernel_rfl)) (by kernel_rfl) rfl (by kernel_rfl) (by kernel_rfl) Tryd.underlying3
  · exact tab_at (t := 118) (e := 101) (n := 20) 2 hl h2 gPow (by kernel_rfl) Tryd.underlying118 Tryd.underlying101 (by kernel_rfl) (by kernel_rfl)
  · exact iface_at 5 hl h5 (by kernel_rfl) (t := 82) (by kernel_rfl) Tryd.underlying82
  · exact iface_at 4 hl h4 (by kernel_rfl) (t := 82) (by kernel_rfl) Tryd.underlying82
end Go.Proofs.YtnkfbappnpnaoaaDoor.Q
