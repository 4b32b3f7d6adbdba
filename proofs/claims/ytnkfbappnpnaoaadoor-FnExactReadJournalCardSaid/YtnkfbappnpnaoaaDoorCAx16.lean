/- A part of this claim's proof: functions of the program as plain functions, with the proof that the code comes to their answers, and facts about them. Condition: none of its own. -/
import Derived.Lib.AtoiAll
import Derived.Shelf.Strconv.AtoiAll
import Derived.Shelf.Strconv.Itoa3
import Derived.Test.YtnkfbappnpnaoaaDoorCAx1
import Derived.Test.YtnkfbappnpnaoaaDoorCAx2
import Derived.Test.YtnkfbappnpnaoaaDoorCAx6
namespace Go.Proofs.YtnkfbappnpnaoaaDoor.Q
open Go.RowKit Go.Proofs.YtnkfbappnpnaoaaDoorW.PrintWords Go.Proofs.YtnkfbappnpnaoaaDoorW.PrintLast Go.Proofs.YtnkfbappnpnaoaaDoorW.PrintMore
attribute [local go_sem] max2_int min2_int max_two min_two max_three min_three max_four min_four   -- for this text's walks alone
set_option linter.unusedVariables false
set_option linter.unusedSimpArgs false

/-- impl.readNumber: strconv.Atoi's number, and whether it is in 0..999999 and spelt so. -/
def atoiNum (s : ByteArray) : Int × Bool := match Lib.atoiAll s.data.toList with
  | .ok v => (v, true)
  | _ => (if Lib.atoiAll s.data.toList = .range then Lib.atoiSat s.data.toList else 0, false)
def impl_readNumber.f (a0 : ByteArray) : Option (Int × Bool) :=
  if a0.size ≤ 281474976710656 then some ((atoiNum a0).1, (atoiNum a0).2 && (decide (0 ≤ (atoiNum a0).1) && (decide ((atoiNum a0).1 ≤ 999999) && (Lib.itoa (atoiNum a0).1 == a0.data.toList)))) else none
theorem grow_below (w : World) (k : Nat) (os : Array Obj) : Below w.heap.size w (Go.Sort.grow (w.drewN k) os) := by
  refine ⟨rfl, rfl, rfl, by simp [Go.Sort.grow], fun i hi => ?_⟩
  simp only [Go.Sort.grow]
  have h0 : (w.drewN k).heap = w.heap := rfl
  rw [h0, Array.getElem?_append_left hi]
theorem atoi_row (s : ByteArray) (w : World) (hs : s.size ≤ 281474976710656) (hG : Glob w) :
    Calls Tryd.prog 59 #[.string s] w fun e w' => ∃ ev, e = .returned (.tuple #[.int .i64 (atoiNum s).1, ev]) ∧ ((ev = .nilIface ∧ (atoiNum s).2 = true) ∨ ((∃ t p, ev = .iface t p) ∧ (atoiNum s).2 = false)) ∧ Below w.heap.size w w' := by
  cases hx : Lib.atoiAll s.data.toList
  · rename_i v
    have e1 : atoiNum s = (v, true) := by unfold atoiNum; rw [hx]
    rw [e1]
    refine (Any.strconv_Atoi_ok Tryd.laysC172 s (by omega) v hx w).mono ?_
    rintro e w' ⟨rfl, hw⟩
    refine ⟨_, rfl, .inl ⟨rfl, rfl⟩, ?_⟩
    rcases hw with rfl | ⟨t, rfl⟩
    · exact Below.refl _ _
    · exact bytes_below (Below.refl _ _) (Nat.le_refl _) _ _
  · have e1 : atoiNum s = (0, false) := by unfold atoiNum; rw [hx]; rfl
    rw [e1]
    obtain ⟨te, pe, hv⟩ := hG.es
    refine (Any.strconv_Atoi_syntax Tryd.laysC172 s hs hx _ w hv (.inr ⟨_, _, rfl⟩)).mono ?_
    rintro e w' ⟨N, rfl, _, _, hb⟩
    exact ⟨_, rfl, .inr ⟨⟨_, _, rfl⟩, rfl⟩, hb⟩
  · have e1 : atoiNum s = (Lib.atoiSat s.data.toList, false) := by unfold atoiNum; rw [hx]; rfl
    rw [e1]
    obtain ⟨te, pe, hv⟩ := hG.er
    refine (Any.strconv_Atoi_range Tryd.laysC172 s hs hx _ w hv (.inr ⟨_, _, rfl⟩)).mono ?_
    rintro e w' ⟨N, rfl, _, _, hb⟩
    exact ⟨_, rfl, .inr ⟨⟨_, _, rfl⟩, rfl⟩, hb⟩
theorem itoa_row (n : Int) (w : World) (h0 : 0 ≤ n) (h1 : n ≤ 999999) (hG : Glob w) :
    Calls Tryd.prog 45 #[.int .i64 n] w fun e w' => e = .returned (.string ⟨(Lib.itoa n).toArray⟩) ∧ Below w.heap.size w w' := by
  refine (Any.strconv_Itoa Tryd.laysM171 n (by omega) (by omega) w hG.tab).mono ?_
  rintro e w' ⟨rfl, k, os, rfl⟩
  exact ⟨rfl, grow_below w k os⟩
set_option maxHeartbeats 1000000 in
theorem impl_readNumber.calls (a0 : ByteArray) (r1 : Int) (r2 : Bool) (w : World) (hG : Glob w) (h : impl_readNumber.f a0 = some (r1, r2)) :
    Calls Tryd.prog 49 #[.string a0] w fun e w' => e = .returned (.tuple #[.int .i64 r1, .bool r2]) ∧ Below w.heap.size w w' := by
  unfold impl_readNumber.f at h
  split at h
  · rename_i hs
    simp only [Option.some.injEq, Prod.mk.injEq] at h
    obtain ⟨rfl, rfl⟩ := h
    have hA := atoi_row a0 w hs hG
    obtain ⟨n, hn⟩ : ∃ n, (atoiNum a0).1 = n := ⟨_, rfl⟩
    obtain ⟨b, hb⟩ : ∃ b, (atoiNum a0).2 = b := ⟨_, rfl⟩
    rw [hn, hb] at hA ⊢
    have HG := Aside0.mk hG
    clear hG hs hn hb
    cases b
    · have hA2 : Calls Tryd.prog 59 #[.string a0] w fun e w' => ∃ t p, e = .returned (.tuple #[.int .i64 n, .iface t p]) ∧ Aside0 (Below w.heap.size w w') := by
        refine hA.mono ?_
        rintro e w' ⟨ev, rfl, hev, hb⟩
        rcases hev with ⟨_, h⟩ | ⟨⟨t, p, rfl⟩, _⟩
        · simp at h
        · exact ⟨t, p, rfl, ⟨hb⟩⟩
      clear hA HG
      go_enter Tryd.func49, Tryd.ntmps49
      go_wp2_with (go_at_call 59; refine hA2.mono ?_; rintro e w1 ⟨t, p, rfl, hb⟩)
      go_ret2
      exact ⟨rfl, hb.out⟩
    · have hA2 : Calls Tryd.prog 59 #[.string a0] w fun e w' => e = .returned (.tuple #[.int .i64 n, .nilIface]) ∧ Aside0 (Below w.heap.size w w') := by
        refine hA.mono ?_
        rintro e w' ⟨ev, rfl, hev, hb⟩
        rcases hev with ⟨rfl, _⟩ | ⟨⟨t, p, rfl⟩, h⟩
        · exact ⟨rfl, ⟨hb⟩⟩
        · simp at h
      clear hA
      by_cases h0 : 0 ≤ n
      · have h0b : decide (0 ≤ n) = true := decide_eq_true h0
        by_cases h9 : n ≤ 999999
        · have h9b : decide (n ≤ 999999) = true := decide_eq_true h9
          rw [h0b, h9b]
          go_enter Tryd.func49, Tryd.ntmps49
          go_wp2_with (first | (go_at_call 59; refine hA2.mono ?_; rintro e w1 ⟨rfl, hb⟩) | (go_at_call 45; refine (itoa_row n _ h0 h9 (HG.out.below hb.out)).mono ?_; rintro e w2 ⟨rfl, hb2⟩; have hb3 := Aside0.mk (hb.out.trans (hb2.mono hb.out.size)); clear hb2))
          go_ret2
          exact ⟨by simp [Lib.toList_data], hb3.out⟩
        · have h9b : decide (n ≤ 999999) = false := decide_eq_false h9
          rw [h0b, h9b]
          clear h9
          go_enter Tryd.func49, Tryd.ntmps49
          go_wp2_with (go_at_call 59; refine hA2.mono ?_; rintro e w1 ⟨rfl, hb⟩)
          go_ret2
          exact ⟨rfl, hb.out⟩
      · have h0b : decide (0 ≤ n) = false := decide_eq_false h0
        rw [h0b]
        clear h0
        go_enter Tryd.func49, Tryd.ntmps49
        go_wp2_with (go_at_call 59; refine hA2.mono ?_; rintro e w1 ⟨rfl, hb⟩)
        go_ret2
        exact ⟨rfl, hb.out⟩
  · simp at h
end Go.Proofs.YtnkfbappnpnaoaaDoor.Q
