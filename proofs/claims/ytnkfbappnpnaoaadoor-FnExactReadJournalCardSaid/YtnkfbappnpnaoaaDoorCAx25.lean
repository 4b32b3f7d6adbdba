/- A part of this claim's proof: functions of the program as plain functions, with the proof that the code comes to their answers, and facts about them. Condition: none of its own. -/
import Derived.Test.YtnkfbappnpnaoaaDoorCAx1
import Derived.Test.YtnkfbappnpnaoaaDoorCAx11
import Derived.Test.YtnkfbappnpnaoaaDoorCAx2
import Derived.Test.YtnkfbappnpnaoaaDoorCAx19
import Derived.Test.YtnkfbappnpnaoaaDoorCAx23
import Derived.Test.YtnkfbappnpnaoaaDoorCAx24
import Derived.Test.YtnkfbappnpnaoaaDoorCAx16
namespace Go.Proofs.YtnkfbappnpnaoaaDoor.Q
open Go.RowKit Go.Proofs.YtnkfbappnpnaoaaDoorW.PrintWords Go.Proofs.YtnkfbappnpnaoaaDoorW.PrintLast Go.Proofs.YtnkfbappnpnaoaaDoorW.PrintMore
attribute [local go_sem] max2_int min2_int max_two min_two max_three min_three max_four min_four   -- for this text's walks alone
set_option linter.unusedVariables false
set_option linter.unusedSimpArgs false

theorem str_empty {x : ByteArray} (h : x.toList = []) : x = ⟨#[]⟩ := by
  rw [Lib.toList_data] at h
  cases x
  rename_i d
  congr
  exact Array.toList_eq_nil_iff.1 h
theorem lit_len0 {l : List ByteArray} (h : l.length = 0) : l = [] := List.length_eq_zero_iff.1 h
theorem lit_len1 {l : List ByteArray} (h : l.length = 1) : ∃ x1, l = [x1] := List.length_eq_one_iff.1 h
theorem lit_len2 {l : List ByteArray} (h : l.length = 2) : ∃ x1 x2, l = [x1, x2] := by
  match l, h with
  | [a, b], _ => exact ⟨a, b, rfl⟩
theorem lit_len3 {l : List ByteArray} (h : l.length = 3) : ∃ x1 x2 x3, l = [x1, x2, x3] := by
  match l, h with
  | [a, b, c], _ => exact ⟨a, b, c, rfl⟩
theorem numLoop_cons {s x : ByteArray} {xs : List ByteArray} {i : Nat} {a b : Int} {k : Int} {z : ByteArray} {R : Int × Int × Int × ByteArray × Bool}
    (h : (numLoop (x :: xs) i a b).bind (fun r => match r with | none => deedNone | some (a, b) => deedFin s k a b z) = some R) :
    ∃ p, impl_readNumber.f x = some p ∧ (if p.2 = true then (if i = 0 then (numLoop xs (i + 1) p.1 b).bind (fun r => match r with | none => deedNone | some (a, b) => deedFin s k a b z) else (numLoop xs (i + 1) a p.1).bind (fun r => match r with | none => deedNone | some (a, b) => deedFin s k a b z)) else deedNone) = some R := by
  unfold numLoop at h
  cases hx : impl_readNumber.f x with
  | none => simp [hx] at h
  | some p =>
    refine ⟨p, rfl, ?_⟩
    simp only [hx, Option.bind_some] at h
    by_cases h1 : p.2 = true
    · by_cases h2 : i = 0
      · simpa [h1, h2] using h
      · simpa [h1, h2] using h
    · simpa [h1] using h
theorem deedFin_some {s : ByteArray} {i : Nat} {k a b : Int} {z : ByteArray} {R : Int × Int × Int × ByteArray × Bool}
    (h : (numLoop [] i a b).bind (fun r => match r with | none => deedNone | some (a, b) => deedFin s k a b z) = some R) : ∃ t, impl_deedTextM.f k a b z = some t ∧ (if t.toList = s.toList then some (k, a, b, z, true) else deedNone) = some R := by
  simp only [numLoop, Option.bind_some, deedFin] at h
  cases ht : impl_deedTextM.f k a b z with
  | none => simp [ht] at h
  | some t => exact ⟨t, rfl, by simpa [ht] using h⟩

theorem readNumber_empty : impl_readNumber.f (⟨#[]⟩ : ByteArray) = some ((atoiNum (⟨#[]⟩ : ByteArray)).1, false) := by
  unfold impl_readNumber.f atoiNum
  rfl

theorem readDeed_body (a0 : ByteArray) (w : World) (hG : Glob w) (hs : a0.size < 4294967281) (k0 x1 : ByteArray) (hk : wordsOf a0 = [k0, x1]) (hj : kindIdx k0 = 0) (r1 r2 r3 : Int) (r4 : ByteArray) (r5 : Bool) (h : deedRest a0 [x1] 0 (⟨#[]⟩ : ByteArray) = some (r1, r2, r3, r4, r5)) :
    Calls Tryd.prog 33 #[.string a0] w fun e w' => e = .returned (.tuple #[.agg #[.int .i64 r1, .int .i64 r2, .int .i64 r3, .string r4], .bool r5]) ∧ Below w.heap.size w w' := by
  unfold deedRest at h
  obtain ⟨p, hn0, h⟩ := numLoop_cons h
  obtain ⟨n0, b0⟩ := p
  cases b0
  · simp [deedNone] at h
    obtain ⟨rfl, rfl, rfl, rfl, rfl⟩ := h
    exact readDeed_body_0 a0 w hG hs k0 x1 hk hj n0 hn0
  simp at h
  obtain ⟨t, ht, h⟩ := deedFin_some h
  split at h
  · rename_i he
    simp at h
    obtain ⟨rfl, rfl, rfl, rfl, rfl⟩ := h
    exact readDeed_body_eq a0 w hG hs k0 x1 hk hj n0 hn0 t ht (by simp [he])
  · rename_i he
    simp [deedNone] at h
    obtain ⟨rfl, rfl, rfl, rfl, rfl⟩ := h
    exact readDeed_body_ne a0 w hG hs k0 x1 hk hj n0 hn0 t ht (by simpa using he)

theorem readDeed_drop (a0 : ByteArray) (w : World) (hG : Glob w) (hs : a0.size < 4294967281) (k0 x1 x2 : ByteArray) (hk : wordsOf a0 = [k0, x1, x2]) (hj : kindIdx k0 = 3) (r1 r2 r3 : Int) (r4 : ByteArray) (r5 : Bool) (h : deedRest a0 [x1, x2] 3 (⟨#[]⟩ : ByteArray) = some (r1, r2, r3, r4, r5)) :
    Calls Tryd.prog 33 #[.string a0] w fun e w' => e = .returned (.tuple #[.agg #[.int .i64 r1, .int .i64 r2, .int .i64 r3, .string r4], .bool r5]) ∧ Below w.heap.size w w' := by
  unfold deedRest at h
  obtain ⟨p, hn0, h⟩ := numLoop_cons h
  obtain ⟨n0, b0⟩ := p
  cases b0
  · simp [deedNone] at h
    obtain ⟨rfl, rfl, rfl, rfl, rfl⟩ := h
    exact readDeed_drop_0 a0 w hG hs k0 x1 x2 hk hj n0 hn0
  simp at h
  obtain ⟨p, hn1, h⟩ := numLoop_cons h
  obtain ⟨n1, b1⟩ := p
  cases b1
  · simp [deedNone] at h
    obtain ⟨rfl, rfl, rfl, rfl, rfl⟩ := h
    exact readDeed_drop_1 a0 w hG hs k0 x1 x2 hk hj n0 n1 hn0 hn1
  simp at h
  obtain ⟨t, ht, h⟩ := deedFin_some h
  split at h
  · rename_i he
    simp at h
    obtain ⟨rfl, rfl, rfl, rfl, rfl⟩ := h
    exact readDeed_drop_eq a0 w hG hs k0 x1 x2 hk hj n0 n1 hn0 hn1 t ht (by simp [he])
  · rename_i he
    simp [deedNone] at h
    obtain ⟨rfl, rfl, rfl, rfl, rfl⟩ := h
    exact readDeed_drop_ne a0 w hG hs k0 x1 x2 hk hj n0 n1 hn0 hn1 t ht (by simpa using he)

theorem readDeed_back (a0 : ByteArray) (w : World) (hG : Glob w) (hs : a0.size < 4294967281) (k0 : ByteArray) (hk : wordsOf a0 = [k0]) (hj : kindIdx k0 = 4) (r1 r2 r3 : Int) (r4 : ByteArray) (r5 : Bool) (h : deedRest a0 [] 4 (⟨#[]⟩ : ByteArray) = some (r1, r2, r3, r4, r5)) :
    Calls Tryd.prog 33 #[.string a0] w fun e w' => e = .returned (.tuple #[.agg #[.int .i64 r1, .int .i64 r2, .int .i64 r3, .string r4], .bool r5]) ∧ Below w.heap.size w w' := by
  unfold deedRest at h
  obtain ⟨t, ht, h⟩ := deedFin_some h
  split at h
  · rename_i he
    simp at h
    obtain ⟨rfl, rfl, rfl, rfl, rfl⟩ := h
    exact readDeed_back_eq a0 w hG hs k0 hk hj   t ht (by simp [he])
  · rename_i he
    simp [deedNone] at h
    obtain ⟨rfl, rfl, rfl, rfl, rfl⟩ := h
    exact readDeed_back_ne a0 w hG hs k0 hk hj   t ht (by simpa using he)

theorem readDeed_ruleE (a0 : ByteArray) (w : World) (hG : Glob w) (hs : a0.size < 4294967281) (k0 : ByteArray) (hk : wordsOf a0 = [k0, ⟨#[]⟩]) (hj : kindIdx k0 = 1) (r1 r2 r3 : Int) (r4 : ByteArray) (r5 : Bool) (h : deedRest a0 [⟨#[]⟩] 1 (⟨#[]⟩ : ByteArray) = some (r1, r2, r3, r4, r5)) :
    Calls Tryd.prog 33 #[.string a0] w fun e w' => e = .returned (.tuple #[.agg #[.int .i64 r1, .int .i64 r2, .int .i64 r3, .string r4], .bool r5]) ∧ Below w.heap.size w w' := by
  unfold deedRest at h
  obtain ⟨p, hn0, h⟩ := numLoop_cons h
  obtain ⟨n0, b0⟩ := p
  cases b0
  · simp [deedNone] at h
    obtain ⟨rfl, rfl, rfl, rfl, rfl⟩ := h
    exact readDeed_ruleE_0 a0 w hG hs k0 hk hj n0 hn0
  · rw [readNumber_empty] at hn0
    simp at hn0

theorem readDeed_ruleW (a0 : ByteArray) (w : World) (hG : Glob w) (hs : a0.size < 4294967281) (k0 x1 : ByteArray) (hk : wordsOf a0 = [k0, x1]) (hj : kindIdx k0 = 1) (hz : x1.toList.isEmpty = false) (r1 r2 r3 : Int) (r4 : ByteArray) (r5 : Bool) (h : deedRest a0 [] 1 x1 = some (r1, r2, r3, r4, r5)) :
    Calls Tryd.prog 33 #[.string a0] w fun e w' => e = .returned (.tuple #[.agg #[.int .i64 r1, .int .i64 r2, .int .i64 r3, .string r4], .bool r5]) ∧ Below w.heap.size w w' := by
  unfold deedRest at h
  obtain ⟨t, ht, h⟩ := deedFin_some h
  split at h
  · rename_i he
    simp at h
    obtain ⟨rfl, rfl, rfl, rfl, rfl⟩ := h
    exact readDeed_ruleW_eq a0 w hG hs k0 x1 hk hj hz   t ht (by simp [he])
  · rename_i he
    simp [deedNone] at h
    obtain ⟨rfl, rfl, rfl, rfl, rfl⟩ := h
    exact readDeed_ruleW_ne a0 w hG hs k0 x1 hk hj hz   t ht (by simpa using he)

theorem readDeed_amendE (a0 : ByteArray) (w : World) (hG : Glob w) (hs : a0.size < 4294967281) (k0 x1 x2 : ByteArray) (hk : wordsOf a0 = [k0, x1, x2, ⟨#[]⟩]) (hj : kindIdx k0 = 2) (r1 r2 r3 : Int) (r4 : ByteArray) (r5 : Bool) (h : deedRest a0 [x1, x2, ⟨#[]⟩] 2 (⟨#[]⟩ : ByteArray) = some (r1, r2, r3, r4, r5)) :
    Calls Tryd.prog 33 #[.string a0] w fun e w' => e = .returned (.tuple #[.agg #[.int .i64 r1, .int .i64 r2, .int .i64 r3, .string r4], .bool r5]) ∧ Below w.heap.size w w' := by
  unfold deedRest at h
  obtain ⟨p, hn0, h⟩ := numLoop_cons h
  obtain ⟨n0, b0⟩ := p
  cases b0
  · simp [deedNone] at h
    obtain ⟨rfl, rfl, rfl, rfl, rfl⟩ := h
    exact readDeed_amendE_0 a0 w hG hs k0 x1 x2 hk hj n0 hn0
  simp at h
  obtain ⟨p, hn1, h⟩ := numLoop_cons h
  obtain ⟨n1, b1⟩ := p
  cases b1
  · simp [deedNone] at h
    obtain ⟨rfl, rfl, rfl, rfl, rfl⟩ := h
    exact readDeed_amendE_1 a0 w hG hs k0 x1 x2 hk hj n0 n1 hn0 hn1
  simp at h
  obtain ⟨p, hn2, h⟩ := numLoop_cons h
  obtain ⟨n2, b2⟩ := p
  cases b2
  · simp [deedNone] at h
    obtain ⟨rfl, rfl, rfl, rfl, rfl⟩ := h
    exact readDeed_amendE_2 a0 w hG hs k0 x1 x2 hk hj n0 n1 n2 hn0 hn1 hn2
  · rw [readNumber_empty] at hn2
    simp at hn2

theorem readDeed_amendW (a0 : ByteArray) (w : World) (hG : Glob w) (hs : a0.size < 4294967281) (k0 x1 x2 x3 : ByteArray) (hk : wordsOf a0 = [k0, x1, x2, x3]) (hj : kindIdx k0 = 2) (hz : x3.toList.isEmpty = false) (r1 r2 r3 : Int) (r4 : ByteArray) (r5 : Bool) (h : deedRest a0 [x1, x2] 2 x3 = some (r1, r2, r3, r4, r5)) :
    Calls Tryd.prog 33 #[.string a0] w fun e w' => e = .returned (.tuple #[.agg #[.int .i64 r1, .int .i64 r2, .int .i64 r3, .string r4], .bool r5]) ∧ Below w.heap.size w w' := by
  unfold deedRest at h
  obtain ⟨p, hn0, h⟩ := numLoop_cons h
  obtain ⟨n0, b0⟩ := p
  cases b0
  · simp [deedNone] at h
    obtain ⟨rfl, rfl, rfl, rfl, rfl⟩ := h
    exact readDeed_amendW_0 a0 w hG hs k0 x1 x2 x3 hk hj hz n0 hn0
  simp at h
  obtain ⟨p, hn1, h⟩ := numLoop_cons h
  obtain ⟨n1, b1⟩ := p
  cases b1
  · simp [deedNone] at h
    obtain ⟨rfl, rfl, rfl, rfl, rfl⟩ := h
    exact readDeed_amendW_1 a0 w hG hs k0 x1 x2 x3 hk hj hz n0 n1 hn0 hn1
  simp at h
  obtain ⟨t, ht, h⟩ := deedFin_some h
  split at h
  · rename_i he
    simp at h
    obtain ⟨rfl, rfl, rfl, rfl, rfl⟩ := h
    exact readDeed_amendW_eq a0 w hG hs k0 x1 x2 x3 hk hj hz n0 n1 hn0 hn1 t ht (by simp [he])
  · rename_i he
    simp [deedNone] at h
    obtain ⟨rfl, rfl, rfl, rfl, rfl⟩ := h
    exact readDeed_amendW_ne a0 w hG hs k0 x1 x2 x3 hk hj hz n0 n1 hn0 hn1 t ht (by simpa using he)

theorem impl_readDeed.calls (a0 : ByteArray) (r1 : Int) (r2 : Int) (r3 : Int) (r4 : ByteArray) (r5 : Bool) (w : World) (hG : Glob w) (h : impl_readDeed.f a0 = some (r1, r2, r3, r4, r5)) :
    Calls Tryd.prog 33 #[.string a0] w fun e w' => e = .returned (.tuple #[.agg #[.int .i64 r1, .int .i64 r2, .int .i64 r3, .string r4], .bool r5]) ∧ Below w.heap.size w w' := by
  unfold impl_readDeed.f at h
  split at h
  case isFalse => simp at h
  rename_i hs
  have hn : 0 < (wordsOf a0).length := splitB_ne a0 ⟨#[32]⟩ (by decide)
  obtain ⟨k0, rest, hk⟩ : ∃ k0 rest, wordsOf a0 = k0 :: rest := by
    cases hw : wordsOf a0 with
    | nil => simp [hw] at hn
    | cons k rest => exact ⟨k, rest, rfl⟩
  rw [hk] at h
  have hk0 : (wordsOf a0)[0]? = some k0 := by simp [hk]
  unfold deedOf at h
  simp only [List.getD_cons_zero] at h
  have hR := kindIdx_range k0
  by_cases hneg : kindIdx k0 < 0
  · rw [if_pos hneg] at h
    simp [deedNone] at h
    obtain ⟨rfl, rfl, rfl, rfl, rfl⟩ := h
    exact readDeed_neg a0 w hG hs k0 hk0 hneg
  rw [if_neg hneg] at h
  have hcases : kindIdx k0 = 0 ∨ kindIdx k0 = 1 ∨ kindIdx k0 = 2 ∨ kindIdx k0 = 3 ∨ kindIdx k0 = 4 := by omega
  rcases hcases with hj | hj | hj | hj | hj

  · rw [hj] at h
    by_cases hl : ((wordsOf a0).length : Int) = 2
    · have hl2 : (((k0 :: rest).length : Nat) : Int) = 2 := by rw [← hk]; exact hl
      have hl3 : rest.length = 1 := by simp at hl2; omega
      obtain ⟨x1, rfl⟩ := lit_len1 hl3
      rw [if_pos (by rw [hl2]; rfl)] at h
      rw [if_neg (by decide)] at h
      exact readDeed_body a0 w hG hs k0 x1 hk hj _ _ _ _ _ h
    · rw [if_neg (by rw [← hk]; exact hl)] at h
      simp [deedNone] at h
      obtain ⟨rfl, rfl, rfl, rfl, rfl⟩ := h
      exact readDeed_len0 a0 w hG hs k0 hk0 hj hl

  · rw [hj] at h
    by_cases hl : ((wordsOf a0).length : Int) = 2
    · have hl2 : (((k0 :: rest).length : Nat) : Int) = 2 := by rw [← hk]; exact hl
      have hl3 : rest.length = 1 := by simp at hl2; omega
      obtain ⟨x1, rfl⟩ := lit_len1 hl3
      rw [if_pos (by rw [hl2]; rfl)] at h
      rw [if_pos (by decide)] at h
      by_cases hz : x1.toList = []
      · rw [if_pos (show ([k0, x1].getD ([k0, x1].length - 1) ByteArray.empty).toList = [] from hz)] at h
        have : x1 = ⟨#[]⟩ := str_empty hz
        subst this
        exact readDeed_ruleE a0 w hG hs k0  hk hj _ _ _ _ _ h
      · have hz2 : x1.toList.isEmpty = false := by simpa using hz
        simp [hz] at h
        exact readDeed_ruleW a0 w hG hs k0 x1 hk hj hz2 _ _ _ _ _ h
    · rw [if_neg (by rw [← hk]; exact hl)] at h
      simp [deedNone] at h
      obtain ⟨rfl, rfl, rfl, rfl, rfl⟩ := h
      exact readDeed_len1 a0 w hG hs k0 hk0 hj hl

  · rw [hj] at h
    by_cases hl : ((wordsOf a0).length : Int) = 4
    · have hl2 : (((k0 :: rest).length : Nat) : Int) = 4 := by rw [← hk]; exact hl
      have hl3 : rest.length = 3 := by simp at hl2; omega
      obtain ⟨x1, x2, x3, rfl⟩ := lit_len3 hl3
      rw [if_pos (by rw [hl2]; rfl)] at h
      rw [if_pos (by decide)] at h
      by_cases hz : x3.toList = []
      · rw [if_pos (show ([k0, x1, x2, x3].getD ([k0, x1, x2, x3].length - 1) ByteArray.empty).toList = [] from hz)] at h
        have : x3 = ⟨#[]⟩ := str_empty hz
        subst this
        exact readDeed_amendE a0 w hG hs k0 x1 x2 hk hj _ _ _ _ _ h
      · have hz2 : x3.toList.isEmpty = false := by simpa using hz
        simp [hz] at h
        exact readDeed_amendW a0 w hG hs k0 x1 x2 x3 hk hj hz2 _ _ _ _ _ h
    · rw [if_neg (by rw [← hk]; exact hl)] at h
      simp [deedNone] at h
      obtain ⟨rfl, rfl, rfl, rfl, rfl⟩ := h
      exact readDeed_len2 a0 w hG hs k0 hk0 hj hl

  · rw [hj] at h
    by_cases hl : ((wordsOf a0).length : Int) = 3
    · have hl2 : (((k0 :: rest).length : Nat) : Int) = 3 := by rw [← hk]; exact hl
      have hl3 : rest.length = 2 := by simp at hl2; omega
      obtain ⟨x1, x2, rfl⟩ := lit_len2 hl3
      rw [if_pos (by rw [hl2]; rfl)] at h
      rw [if_neg (by decide)] at h
      exact readDeed_drop a0 w hG hs k0 x1 x2 hk hj _ _ _ _ _ h
    · rw [if_neg (by rw [← hk]; exact hl)] at h
      simp [deedNone] at h
      obtain ⟨rfl, rfl, rfl, rfl, rfl⟩ := h
      exact readDeed_len3 a0 w hG hs k0 hk0 hj hl

  · rw [hj] at h
    by_cases hl : ((wordsOf a0).length : Int) = 1
    · have hl2 : (((k0 :: rest).length : Nat) : Int) = 1 := by rw [← hk]; exact hl
      have hl3 : rest.length = 0 := by simp at hl2; omega
      obtain ⟨rfl⟩ := lit_len0 hl3
      rw [if_pos (by rw [hl2]; rfl)] at h
      rw [if_neg (by decide)] at h
      exact readDeed_back a0 w hG hs k0  hk hj _ _ _ _ _ h
    · rw [if_neg (by rw [← hk]; exact hl)] at h
      simp [deedNone] at h
      obtain ⟨rfl, rfl, rfl, rfl, rfl⟩ := h
      exact readDeed_len4 a0 w hG hs k0 hk0 hj hl
end Go.Proofs.YtnkfbappnpnaoaaDoor.Q
