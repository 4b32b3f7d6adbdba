/- A part of this claim's proof: functions of the program as plain functions, with the proof that the code comes to their answers, and facts about them. Condition: none of its own. -/
import Derived.Deep.DeepFit
import Derived.Deep.LoopGhost
import Derived.Lib.AtoiAll
import Derived.Lib.LaidTab
import Derived.Outline
import Derived.Shelf.Strconv.AtoiAll
import Derived.Shelf.Strconv.Itoa3
import Derived.Shelf.Strings.Split
import Derived.Test.YtnkfbappnpnaoaaDoorCJx1
import Derived.Test.YtnkfbappnpnaoaaDoorCJx2
import Derived.Test.YtnkfbappnpnaoaaDoorCJz
namespace Go.Proofs.YtnkfbappnpnaoaaDoor.Q
open Go.RowKit Go.Proofs.YtnkfbappnpnaoaaDoorW.PrintWords Go.Proofs.YtnkfbappnpnaoaaDoorW.PrintLast Go.Proofs.YtnkfbappnpnaoaaDoorW.PrintMore
attribute [local go_sem] max2_int min2_int max_two min_two max_three min_three max_four min_four   -- for this text's walks alone
set_option linter.unusedVariables false
set_option linter.unusedSimpArgs false
def impl_deedTextM.f (a0_0 : Int) (a0_1 : Int) (a0_2 : Int) (a0_3 : ByteArray) : Option (ByteArray) := impl_deedText.f 9 a0_0 a0_1 a0_2 a0_3
theorem impl_deedTextM.calls (a0_0 : Int) (a0_1 : Int) (a0_2 : Int) (a0_3 : ByteArray) (r : ByteArray) (w : World) (h : impl_deedTextM.f a0_0 a0_1 a0_2 a0_3 = some r) :
    Calls Tryd.prog 29 #[.agg #[.int .i64 a0_0, .int .i64 a0_1, .int .i64 a0_2, .string a0_3]] w fun e w' => e = .returned (.string r) ∧ Below w.heap.size w w' := impl_deedText.calls 9 a0_0 a0_1 a0_2 a0_3 r w h
end Go.Proofs.YtnkfbappnpnaoaaDoor.Q
namespace Go.Proofs.YtnkfbappnpnaoaaDoor.Q
open Go.RowKit Go.Proofs.YtnkfbappnpnaoaaDoorW.PrintWords Go.Proofs.YtnkfbappnpnaoaaDoorW.PrintLast Go.Proofs.YtnkfbappnpnaoaaDoorW.PrintMore
attribute [local go_sem] max2_int min2_int max_two min_two max_three min_three max_four min_four   -- for this text's walks alone
set_option linter.unusedVariables false
set_option linter.unusedSimpArgs false
open Go.Lib in
structure Glob (w : World) : Prop where
  mx : ∃ m, w.cell? ⟨0, 0, none⟩ = some (.int .i64 m)
  tab : TabIs Tryd.prog w "internal/strconv.uint64pow10" .u64 pow10Tab
  es : ∃ te pe, w.cell? ⟨2, 0, none⟩ = some (.iface te pe)
  er : ∃ te pe, w.cell? ⟨3, 0, none⟩ = some (.iface te pe)
theorem gPow : Tryd.prog.globalNamed "internal/strconv.uint64pow10" = some 1 := by kernel_rfl
theorem cell_keeps {w w' : World} {a : Addr} {v : Value} (h : w.cell? a = some v) (hb : Below w.heap.size w w') : w'.cell? a = some v := (hb.cell (World.block_lt_of_cell? w a h)).trans h
theorem tab_keeps {w w' : World} {g : Nat} {n : String} {k : IntKind} {zs : List Int} (hg : Tryd.prog.globalNamed n = some g) (h : Lib.TabIs Tryd.prog w n k zs) (hb : Below w.heap.size w w') : Lib.TabIs Tryd.prog w' n k zs := by
  unfold Lib.TabIs World.var? at h ⊢
  simp only [hg, Option.bind_some] at h ⊢
  by_cases hlt : g < w.heap.size
  · rw [hb.block g hlt]
    exact h
  · rw [Array.getElem?_eq_none (by omega)] at h
    simp at h
theorem Glob.below {w w' : World} (h : Glob w) (hb : Below w.heap.size w w') : Glob w' := by
  obtain ⟨⟨m, hm⟩, ht, ⟨t1, p1, h1⟩, ⟨t2, p2, h2⟩⟩ := h
  exact ⟨⟨m, cell_keeps hm hb⟩, tab_keeps gPow ht hb, ⟨t1, p1, cell_keeps h1 hb⟩, ⟨t2, p2, cell_keeps h2 hb⟩⟩
end Go.Proofs.YtnkfbappnpnaoaaDoor.Q
namespace Go.Proofs.YtnkfbappnpnaoaaDoor.Q
open Go.RowKit Go.Proofs.YtnkfbappnpnaoaaDoorW.PrintWords Go.Proofs.YtnkfbappnpnaoaaDoorW.PrintLast Go.Proofs.YtnkfbappnpnaoaaDoorW.PrintMore
attribute [local go_sem] max2_int min2_int max_two min_two max_three min_three max_four min_four   -- for this text's walks alone
set_option linter.unusedVariables false
set_option linter.unusedSimpArgs false
def atoiNum (s : ByteArray) : Int × Bool := match Lib.atoiAll s.data.toList with
  | .ok v => (v, true)
  | _ => (if Lib.atoiAll s.data.toList = .range then Lib.atoiSat s.data.toList else 0, false)
def impl_readNumber.f (a0 : ByteArray) : Option (Int × Bool) :=
  if a0.size ≤ 281474976710656 then some ((atoiNum a0).1, (atoiNum a0).2 && (decide (0 ≤ (atoiNum a0).1) && (decide ((atoiNum a0).1 ≤ 999999) && (Lib.itoa (atoiNum a0).1 == a0.data.toList)))) else none
theorem grow_below (w : World) (k : Nat) (os : Array Obj) : Below w.heap.size w (Go.Sort.grow (w.drewN k) os) := by
  refine ⟨rfl, rfl, rfl, by simp [Go.Sort.grow], fun i hi => ?_⟩
  simp only [Go.Sort.grow]
  have h0 : (w.drewN k).heap = w.heap := rfl
  rw [h0, Array.getElem?_append_left hi]
theorem atoi_row (s : ByteArray) (w : World) (hs : s.size ≤ 281474976710656) (hG : Glob w) :
    Calls Tryd.prog 59 #[.string s] w fun e w' => ∃ ev, e = .returned (.tuple #[.int .i64 (atoiNum s).1, ev]) ∧ ((ev = .nilIface ∧ (atoiNum s).2 = true) ∨ ((∃ t p, ev = .iface t p) ∧ (atoiNum s).2 = false)) ∧ Below w.heap.size w w' := by
  cases hx : Lib.atoiAll s.data.toList
  · rename_i v
    have e1 : atoiNum s = (v, true) := by unfold atoiNum; rw [hx]
    rw [e1]
    refine (Any.strconv_Atoi_ok Tryd.laysC172 s (by omega) v hx w).mono ?_
    rintro e w' ⟨rfl, hw⟩
    refine ⟨_, rfl, .inl ⟨rfl, rfl⟩, ?_⟩
    rcases hw with rfl | ⟨t, rfl⟩
    · exact Below.refl _ _
    · exact bytes_below (Below.refl _ _) (Nat.le_refl _) _ _
  · have e1 : atoiNum s = (0, false) := by unfold atoiNum; rw [hx]; rfl
    rw [e1]
    obtain ⟨te, pe, hv⟩ := hG.es
    refine (Any.strconv_Atoi_syntax Tryd.laysC172 s hs hx _ w hv (.inr ⟨_, _, rfl⟩)).mono ?_
    rintro e w' ⟨N, rfl, _, _, hb⟩
    exact ⟨_, rfl, .inr ⟨⟨_, _, rfl⟩, rfl⟩, hb⟩
  · have e1 : atoiNum s = (Lib.atoiSat s.data.toList, false) := by unfold atoiNum; rw [hx]; rfl
    rw [e1]
    obtain ⟨te, pe, hv⟩ := hG.er
    refine (Any.strconv_Atoi_range Tryd.laysC172 s hs hx _ w hv (.inr ⟨_, _, rfl⟩)).mono ?_
    rintro e w' ⟨N, rfl, _, _, hb⟩
    exact ⟨_, rfl, .inr ⟨⟨_, _, rfl⟩, rfl⟩, hb⟩
theorem itoa_row (n : Int) (w : World) (h0 : 0 ≤ n) (h1 : n ≤ 999999) (hG : Glob w) :
    Calls Tryd.prog 45 #[.int .i64 n] w fun e w' => e = .returned (.string ⟨(Lib.itoa n).toArray⟩) ∧ Below w.heap.size w w' := by
  refine (Any.strconv_Itoa Tryd.laysM171 n (by omega) (by omega) w hG.tab).mono ?_
  rintro e w' ⟨rfl, k, os, rfl⟩
  exact ⟨rfl, grow_below w k os⟩
set_option maxHeartbeats 1000000 in
theorem impl_readNumber.calls (a0 : ByteArray) (r1 : Int) (r2 : Bool) (w : World) (hG : Glob w) (h : impl_readNumber.f a0 = some (r1, r2)) :
    Calls Tryd.prog 49 #[.string a0] w fun e w' => e = .returned (.tuple #[.int .i64 r1, .bool r2]) ∧ Below w.heap.size w w' := by
  unfold impl_readNumber.f at h
  split at h
  · rename_i hs
    simp only [Option.some.injEq, Prod.mk.injEq] at h
    obtain ⟨rfl, rfl⟩ := h
    have hA := atoi_row a0 w hs hG
    obtain ⟨n, hn⟩ : ∃ n, (atoiNum a0).1 = n := ⟨_, rfl⟩
    obtain ⟨b, hb⟩ : ∃ b, (atoiNum a0).2 = b := ⟨_, rfl⟩
    rw [hn, hb] at hA ⊢
    have HG := Aside0.mk hG
    clear hG hs hn hb
    cases b
    · have hA2 : Calls Tryd.prog 59 #[.string a0] w fun e w' => ∃ t p, e = .returned (.tuple #[.int .i64 n, .iface t p]) ∧ Aside0 (Below w.heap.size w w') := by
        refine hA.mono ?_
        rintro e w' ⟨ev, rfl, hev, hb⟩
        rcases hev with ⟨_, h⟩ | ⟨⟨t, p, rfl⟩, _⟩
        · simp at h
        · exact ⟨t, p, rfl, ⟨hb⟩⟩
      clear hA HG
      go_enter Tryd.func49, Tryd.ntmps49
      go_wp2_with (go_at_call 59; refine hA2.mono ?_; rintro e w1 ⟨t, p, rfl, hb⟩)
      go_ret2
      exact ⟨rfl, hb.out⟩
    · have hA2 : Calls Tryd.prog 59 #[.string a0] w fun e w' => e = .returned (.tuple #[.int .i64 n, .nilIface]) ∧ Aside0 (Below w.heap.size w w') := by
        refine hA.mono ?_
        rintro e w' ⟨ev, rfl, hev, hb⟩
        rcases hev with ⟨rfl, _⟩ | ⟨⟨t, p, rfl⟩, h⟩
        · exact ⟨rfl, ⟨hb⟩⟩
        · simp at h
      clear hA
      by_cases h0 : 0 ≤ n
      · have h0b : decide (0 ≤ n) = true := decide_eq_true h0
        by_cases h9 : n ≤ 999999
        · have h9b : decide (n ≤ 999999) = true := decide_eq_true h9
          rw [h0b, h9b]
          go_enter Tryd.func49, Tryd.ntmps49
          go_wp2_with (first | (go_at_call 59; refine hA2.mono ?_; rintro e w1 ⟨rfl, hb⟩) | (go_at_call 45; refine (itoa_row n _ h0 h9 (HG.out.below hb.out)).mono ?_; rintro e w2 ⟨rfl, hb2⟩; have hb3 := Aside0.mk (hb.out.trans (hb2.mono hb.out.size)); clear hb2))
          go_ret2
          exact ⟨by simp [Lib.toList_data], hb3.out⟩
        · have h9b : decide (n ≤ 999999) = false := decide_eq_false h9
          rw [h0b, h9b]
          clear h9
          go_enter Tryd.func49, Tryd.ntmps49
          go_wp2_with (go_at_call 59; refine hA2.mono ?_; rintro e w1 ⟨rfl, hb⟩)
          go_ret2
          exact ⟨rfl, hb.out⟩
      · have h0b : decide (0 ≤ n) = false := decide_eq_false h0
        rw [h0b]
        clear h0
        go_enter Tryd.func49, Tryd.ntmps49
        go_wp2_with (go_at_call 59; refine hA2.mono ?_; rintro e w1 ⟨rfl, hb⟩)
        go_ret2
        exact ⟨rfl, hb.out⟩
  · simp at h
end Go.Proofs.YtnkfbappnpnaoaaDoor.Q
namespace Go.Proofs.YtnkfbappnpnaoaaDoor.Q
open Go.RowKit Go.Proofs.YtnkfbappnpnaoaaDoorW.PrintWords Go.Proofs.YtnkfbappnpnaoaaDoorW.PrintLast Go.Proofs.YtnkfbappnpnaoaaDoorW.PrintMore
attribute [local go_sem] max2_int min2_int max_two min_two max_three min_three max_four min_four   -- for this text's walks alone
set_option linter.unusedVariables false
set_option linter.unusedSimpArgs false
theorem strings_Split.row (a0 a1 : ByteArray) (w : World) (hG : Glob w) (hs : a0.size < 4294967281) (h1 : 1 ≤ a1.size) :
    Calls Tryd.prog 47 #[.string a0, .string a1] w fun e w' =>
      e = .returned (.slice (some ⟨w.heap.size, 0, none⟩) (Lib.splitB a1 0 (Lib.countB a0 a1) a0).length (Lib.splitB a1 0 (Lib.countB a0 a1) a0).length) ∧ w' = w.alloc (.cells ((Lib.splitB a1 0 (Lib.countB a0 a1) a0).map Value.string).toArray 9) := by
  obtain ⟨m, hm⟩ := hG.mx
  have hlen := Lib.splitB_all a1 h1 0 _ a0 rfl
  refine (Any.strings_Split Tryd.lays146 (by kernel_rfl) a0 a1 m w hs hm h1).mono ?_
  rintro e w' ⟨rfl, rfl⟩
  exact ⟨by rw [hlen], rfl⟩
end Go.Proofs.YtnkfbappnpnaoaaDoor.Q
namespace Go.Proofs.YtnkfbappnpnaoaaDoor.Q
open Go.RowKit Go.Proofs.YtnkfbappnpnaoaaDoorW.PrintWords Go.Proofs.YtnkfbappnpnaoaaDoorW.PrintLast Go.Proofs.YtnkfbappnpnaoaaDoorW.PrintMore
attribute [local go_sem] max2_int min2_int max_two min_two max_three min_three max_four min_four   -- for this text's walks alone
set_option linter.unusedVariables false
set_option linter.unusedSimpArgs false
def slices_Index_string_string.l0 : Nat → List ByteArray → ByteArray → Int → Int → Option (Int)
  | 0, _, _, _, _ => none
  | k + 1, x0, x1, x7, x8 => if x8 < x7 then (if 0 ≤ x8 then (if x8 < (x0.length : Int) then (if x1.toList = (rdOf ByteArray.empty x0 x8).toList then (some x8) else (slices_Index_string_string.l0 k x0 x1 x7 (wrap64 (x8 + 1)))) else (none)) else (none)) else (some (-1))
def slices_Index_string_string.f (k : Nat) (l0 : List ByteArray) (a1 : ByteArray) : Option (Int) := slices_Index_string_string.l0 k l0 a1 (l0.length : Int) 0
set_option maxHeartbeats 8000000 in
set_option maxRecDepth 100000 in
theorem slices_Index_string_string.calls (k : Nat) (A0 : Option Addr) (c0 : Nat) (l0 : List ByteArray) (a1 : ByteArray) (r : Int) (w : World) (hr0 : Kd.C Kd.string w A0 l0.length l0) (hc0 : l0.length ≤ c0) (h : slices_Index_string_string.f k l0 a1 = some r) :
    Calls Tryd.prog 48 #[.slice A0 l0.length c0, .string a1] w fun e w' => e = .returned (.int .i64 r) ∧ Drawn0 w w' := by
 have HR0 := Aside0.mk hr0
 have HC0 := Aside0.mk hc0
 clear hr0 hc0
 have H : (slices_Index_string_string.l0 k l0 a1 (l0.length : Int) 0) = some r := h
 clear h
 have H' := Aside0.mk H
 clear H
 go_enter Tryd.func48, Tryd.ntmps48
 go_wp2
 go_loopg [8] k (fun kq v8 w' => ∃ (x8_1 : Int), v8 = .int .i64 x8_1 ∧ Aside0 (slices_Index_string_string.l0 kq l0 a1 (l0.length : Int) x8_1 = some r) ∧ Aside0 (kq ≤ k) ∧ Drawn0 w w')
 case atStart => exact ⟨(0), zcj_4, H', ⟨Nat.le_refl _⟩, zcj_21⟩
 case round =>(
 clear H'
 try clear p2
 obtain ⟨x8_1, rfl, HA, HK1, ⟨m1, rfl⟩⟩ := hrel
 cases gk with
 | zero => exact absurd HA.out (by simp [slices_Index_string_string.l0])
 | succ k1 =>(
 have H := HA.out
 clear HA
 simp only [slices_Index_string_string.l0] at H
 by_cases c3 : x8_1 < (l0.length : Int)
 {
 rw [if_pos c3] at H
 have c3b0 : decide (x8_1 < (l0.length : Int)) = true := decide_eq_true c3
 clear c3
 by_cases c4 : 0 ≤ x8_1
 {
 rw [if_pos c4] at H
 have c4b0 : decide (0 ≤ x8_1) = true := decide_eq_true c4
 clear c4
 by_cases c5 : x8_1 < (l0.length : Int)
 {
 rw [if_pos c5] at H
 have c5b0 : decide (x8_1 < (l0.length : Int)) = true := decide_eq_true c5
 clear c5
 by_cases c6 : a1.toList = (rdOf ByteArray.empty l0 x8_1).toList
 {
 rw [if_pos c6] at H
 have c6b0 : (a1.toList == (rdOf ByteArray.empty l0 x8_1).toList) = true := beq_iff_eq.mpr c6
 have c6b1 : (a1.toList != (rdOf ByteArray.empty l0 x8_1).toList) = false := bne_eq_false_iff_eq.mpr c6
 clear c6
 obtain rfl := Option.some.inj H
 have p629 : 0 ≤ (x8_1 : Int) := of_decide_eq_true zcj_2
 have q629 : x8_1 < (l0.length : Int) := of_decide_eq_true zcj_2
 obtain ⟨ad629, e629, hx629_0⟩ := Kd.at_string HR0.out x8_1 p629 q629
 cases e629
 replace p629 := eq_true p629
 replace q629 := eq_true q629
 go_wp2
 go_ret
 exact ⟨zcj_4, zcj_21⟩
 }
 {
 rw [if_neg c6] at H
 have c6b0 : (a1.toList == (rdOf ByteArray.empty l0 x8_1).toList) = false := beq_eq_false_iff_ne.mpr c6
 have c6b1 : (a1.toList != (rdOf ByteArray.empty l0 x8_1).toList) = true := bne_iff_ne.mpr c6
 have H' := Aside0.mk H
 clear H
 have p629 : 0 ≤ (x8_1 : Int) := of_decide_eq_true zcj_2
 have q629 : x8_1 < (l0.length : Int) := of_decide_eq_true zcj_2
 obtain ⟨ad629, e629, hx629_0⟩ := Kd.at_string HR0.out x8_1 p629 q629
 cases e629
 replace p629 := eq_true p629
 replace q629 := eq_true q629
 go_wp2
 go_roundg k1
 case measure => have := HK1.out; omega
 case rel => exact ⟨(wrap64 (x8_1 + 1)), zcj_4, H', ⟨by have := HK1.out; omega⟩, zcj_21⟩
 }
 }
 {
 rw [if_neg c5] at H
 exact absurd H (by simp)
 }
 }
 {
 rw [if_neg c4] at H
 exact absurd H (by simp)
 }
 }
 {
 rw [if_neg c3] at H
 have c3b0 : decide (x8_1 < (l0.length : Int)) = false := decide_eq_false c3
 clear c3
 obtain rfl := Option.some.inj H
 go_wp2
 go_ret
 exact ⟨zcj_4, zcj_21⟩
 }
 )
 )
end Go.Proofs.YtnkfbappnpnaoaaDoor.Q
namespace Go.Proofs.YtnkfbappnpnaoaaDoor.Q
open Go.RowKit Go.Proofs.YtnkfbappnpnaoaaDoorW.PrintWords Go.Proofs.YtnkfbappnpnaoaaDoorW.PrintLast Go.Proofs.YtnkfbappnpnaoaaDoorW.PrintMore
attribute [local go_sem] max2_int min2_int max_two min_two max_three min_three max_four min_four   -- for this text's walks alone
set_option linter.unusedVariables false
set_option linter.unusedSimpArgs false
def wordsOf (s : ByteArray) : List ByteArray := Lib.splitB ⟨#[32]⟩ 0 (Lib.countB s ⟨#[32]⟩) s
def kindsL : List ByteArray := [⟨#[98, 111, 100, 121]⟩, ⟨#[114, 117, 108, 101]⟩, ⟨#[97, 109, 101, 110, 100]⟩, ⟨#[100, 114, 111, 112]⟩, ⟨#[98, 97, 99, 107]⟩]
def countsL : List Int := [2, 2, 4, 3, 1]
def kindIdx (k : ByteArray) : Int := if k.toList = [98, 111, 100, 121] then 0 else if k.toList = [114, 117, 108, 101] then 1 else if k.toList = [97, 109, 101, 110, 100] then 2 else if k.toList = [100, 114, 111, 112] then 3 else if k.toList = [98, 97, 99, 107] then 4 else -1
theorem kindIdx_range (k : ByteArray) : -1 ≤ kindIdx k ∧ kindIdx k ≤ 4 := by
  unfold kindIdx
  repeat' split
  all_goals omega
theorem kindIdx_eq (k : ByteArray) : slices_Index_string_string.f 7 kindsL k = some (kindIdx k) := by
  unfold slices_Index_string_string.f kindIdx
  simp only [kindsL, slices_Index_string_string.l0, rdOf, show wrap64 (0 + 1) = 1 from w64 _ (by decide) (by decide), show wrap64 (1 + 1) = 2 from w64 _ (by decide) (by decide), show wrap64 (2 + 1) = 3 from w64 _ (by decide) (by decide), show wrap64 (3 + 1) = 4 from w64 _ (by decide) (by decide), show wrap64 (4 + 1) = 5 from w64 _ (by decide) (by decide)]
  simp only [List.length_cons, List.length_nil, List.getD_cons_zero, List.getD_cons_succ, Int.toNat_zero, Lib.toList_data, show Int.toNat 1 = 0 + 1 from rfl, show Int.toNat 2 = 1 + 1 from rfl, show Int.toNat 3 = 2 + 1 from rfl, show Int.toNat 4 = 3 + 1 from rfl]
  simp
  repeat' split
  all_goals rfl
def numLoop : List ByteArray → Nat → Int → Int → Option (Option (Int × Int))
  | [], _, a, b => some (some (a, b))
  | x :: xs, i, a, b => (impl_readNumber.f x).bind fun p => if p.2 = true then (if i = 0 then numLoop xs (i + 1) p.1 b else numLoop xs (i + 1) a p.1) else some none
def deedNone : Option (Int × Int × Int × ByteArray × Bool) := some (0, 0, 0, ⟨#[]⟩, false)
def deedFin (s : ByteArray) (k a b : Int) (z : ByteArray) : Option (Int × Int × Int × ByteArray × Bool) :=
  (impl_deedTextM.f k a b z).bind fun t => if t.toList = s.toList then some (k, a, b, z, true) else deedNone
def deedRest (s : ByteArray) (nums : List ByteArray) (k : Int) (z : ByteArray) : Option (Int × Int × Int × ByteArray × Bool) :=
  (numLoop nums 0 0 0).bind fun r => match r with
    | none => deedNone
    | some (a, b) => deedFin s k a b z
def deedOf (s : ByteArray) (ws : List ByteArray) : Option (Int × Int × Int × ByteArray × Bool) :=
  if kindIdx (ws.getD 0 ByteArray.empty) < 0 then deedNone
  else if (ws.length : Int) = countsL.getD (kindIdx (ws.getD 0 ByteArray.empty)).toNat 0 then
    (if kindIdx (ws.getD 0 ByteArray.empty) = 1 ∨ kindIdx (ws.getD 0 ByteArray.empty) = 2 then
      (if (ws.getD (ws.length - 1) ByteArray.empty).toList = [] then deedRest s (ws.drop 1) (kindIdx (ws.getD 0 ByteArray.empty)) ⟨#[]⟩
       else deedRest s ((ws.drop 1).dropLast) (kindIdx (ws.getD 0 ByteArray.empty)) (ws.getD (ws.length - 1) ByteArray.empty))
     else deedRest s (ws.drop 1) (kindIdx (ws.getD 0 ByteArray.empty)) ⟨#[]⟩)
  else deedNone
def impl_readDeed.f (a0 : ByteArray) : Option (Int × Int × Int × ByteArray × Bool) := if a0.size < 4294967281 then deedOf a0 (wordsOf a0) else none
theorem splitRow (a0 a1 : ByteArray) (w : World) (hG : Glob w) (hs : a0.size < 4294967281) (h1 : 1 ≤ a1.size) :
    Calls Tryd.prog 47 #[.string a0, .string a1] w fun e w' => ∃ g, e = .returned (.slice (some ⟨g, 0, none⟩) (Lib.splitB a1 0 (Lib.countB a0 a1) a0).length (Lib.splitB a1 0 (Lib.countB a0 a1) a0).length) ∧
      w'.heap[g]? = some (.cells ((Lib.splitB a1 0 (Lib.countB a0 a1) a0).map Value.string).toArray 9 (0, 0)) ∧ w.heap.size ≤ g ∧ Below w.heap.size w w' := by
  refine (strings_Split.row a0 a1 w hG hs h1).mono ?_
  rintro e w' ⟨rfl, rfl⟩
  exact ⟨_, rfl, heap_alloc_new w _, Nat.le_refl _, (Below.refl _ _).alloc (Nat.le_refl _) _⟩
theorem block_reads {w : World} {g : Nat} {xs : List ByteArray} {t : Nat} (h : w.heap[g]? = some (.cells (xs.map Value.string).toArray t (0, 0))) (hl : xs.length ≤ 9223372036854775807) : ReadsOf Value.string ByteArray.empty w (some ⟨g, 0, none⟩) xs.length xs := by
  refine ⟨rfl, hl, fun hn => ⟨_, rfl, fun j hj => ?_⟩⟩
  rw [show (⟨g, 0, none⟩ : Addr).add j = ⟨g, j, none⟩ by simp [Addr.add]; omega, blk_cell h j]
  simp [List.getElem?_eq_getElem hj, List.getD_eq_getElem?_getD]
theorem splitB_ne (a0 a1 : ByteArray) (h1 : 1 ≤ a1.size) : 0 < (Lib.splitB a1 0 (Lib.countB a0 a1) a0).length := by
  rw [Lib.splitB_all a1 h1 0 _ a0 rfl]
  omega
theorem idxRow (k0 : ByteArray) (w : World) (g c : Nat) (hb : w.heap[g]? = some (.cells (kindsL.map Value.string).toArray 9 (0, 0))) (hc : 5 ≤ c) :
    Calls Tryd.prog 48 #[.slice (some ⟨g, 0, none⟩) 5 c, .string k0] w fun e w' => e = .returned (.int .i64 (kindIdx k0)) ∧ Drawn0 w w' :=
  slices_Index_string_string.calls 7 (some ⟨g, 0, none⟩) c kindsL k0 _ w (Kd.C_of_reads (block_reads hb (by decide))) hc (kindIdx_eq k0)
set_option maxHeartbeats 4000000 in
set_option maxRecDepth 100000 in
theorem readDeed_neg (a0 : ByteArray) (w : World) (hG : Glob w) (hs : a0.size < 4294967281) (k0 : ByteArray) (hk : (wordsOf a0)[0]? = some k0) (hj : kindIdx k0 < 0) :
    Calls Tryd.prog 33 #[.string a0] w fun e w' => e = .returned (.tuple #[.agg #[.int .i64 0, .int .i64 0, .int .i64 0, .string ⟨#[]⟩], .bool false]) ∧ Below w.heap.size w w' := by
  have hS := fun w hG => splitRow a0 ⟨#[32]⟩ w hG hs (by decide)
  have hn := splitB_ne a0 ⟨#[32]⟩ (by decide)
  change ∀ w hG, Calls _ _ _ w fun e w' => ∃ g, e = .returned (.slice (some ⟨g, 0, none⟩) (wordsOf a0).length (wordsOf a0).length) ∧ w'.heap[g]? = some (.cells ((wordsOf a0).map Value.string).toArray 9 (0, 0)) ∧ w.heap.size ≤ g ∧ Below w.heap.size w w' at hS
  change 0 < (wordsOf a0).length at hn
  generalize wordsOf a0 = ws at hS hn hk
  have hI := idxRow k0
  obtain ⟨j, hjk⟩ : ∃ j, kindIdx k0 = j := ⟨_, rfl⟩
  rw [hjk] at hj hI
  have HG := Aside0.mk hG
  clear hG hjk hs
  go_enter Tryd.func33, Tryd.ntmps33
  go_wp2_with (first | (go_at_call 48; go_fit (hI _ _ _ (heap_alloc_old (heap_alloc_new _ _) _) (Nat.le_refl _)); rintro e w2 ⟨rfl, ⟨nd, rfl⟩⟩) | (go_at_call 47; refine (hS _ (HG.out.below ((Below.refl _ _).alloc (Nat.le_refl _) _))).mono ?_; rintro e w1 ⟨g, rfl, hb, hg, hB⟩; have hc00 : w1.cell? ⟨g, 0, none⟩ = some (.string k0) := (blk_cell hb 0).trans (by simp [hk]); have hc0 := fun o1 o2 => cell_alloc (cell_alloc hc00 o1) o2; clear hc00; have hR := (hB.block w.heap.size (by simp)).trans (heap_alloc_new w _); have hR2 := fun o1 o2 => heap_alloc_old (heap_alloc_old hR o1) o2; have r0 := fun o1 o2 => blk_cell (hR2 o1 o2) 0; have r1 := fun o1 o2 => blk_cell (hR2 o1 o2) 1; have r2 := fun o1 o2 => blk_cell (hR2 o1 o2) 2; have r3 := fun o1 o2 => blk_cell (hR2 o1 o2) 3; have f0 := fun o1 o2 => blk_frozen (hR2 o1 o2) 0; have f1 := fun o1 o2 => blk_frozen (hR2 o1 o2) 1; have f2 := fun o1 o2 => blk_frozen (hR2 o1 o2) 2; have f3 := fun o1 o2 => blk_frozen (hR2 o1 o2) 3; dsimp at r0 r1 r2 r3; replace hR2 := Aside0.mk hR2; have hBw := Aside0.mk (((Below.refl w.heap.size w).alloc (Nat.le_refl _) _).trans (hB.mono (by simp))); clear hR hB))
  refine bodyPost_ret (results_ct rfl _ _ w.heap.size 30 #[.int .i64 0, .int .i64 0, .int .i64 0, .string (⟨#[]⟩ : ByteArray)] (0, 0) _ rfl ?hblk Tryd.underlying30 rfl (by kernel_rfl)) rfl ?_
  case hblk =>
    refine blk_put (cs := #[.int .i64 0, .int .i64 0, .int .i64 0, .string (⟨#[]⟩ : ByteArray)]) ?_ 3 _ rfl
    refine blk_put (cs := #[.int .i64 0, .int .i64 0, .int .i64 0, .string (⟨#[]⟩ : ByteArray)]) ?_ 2 _ rfl
    refine blk_put (cs := #[.int .i64 0, .int .i64 0, .int .i64 0, .string (⟨#[]⟩ : ByteArray)]) ?_ 1 _ rfl
    refine blk_put (cs := #[.int .i64 0, .int .i64 0, .int .i64 0, .string (⟨#[]⟩ : ByteArray)]) ?_ 0 _ rfl
    exact blk_drewN (hR2.out _ _) _
  refine ⟨rfl, ?_⟩
  repeat (first | exact hBw.out | apply below_alloc | apply pw_below_drewN | refine below_set ?_ (Nat.le_refl _))
end Go.Proofs.YtnkfbappnpnaoaaDoor.Q
