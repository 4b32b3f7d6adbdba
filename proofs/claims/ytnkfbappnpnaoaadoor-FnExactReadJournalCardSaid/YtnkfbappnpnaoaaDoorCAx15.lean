/- A part of this claim's proof: functions of the program as plain functions, with the proof that the code comes to their answers, and facts about them. Condition: none of its own. -/
import Derived.Test.YtnkfbappnpnaoaaDoorCAx1
import Derived.Test.YtnkfbappnpnaoaaDoorCAx7
import Derived.Test.YtnkfbappnpnaoaaDoorCAx11
import Derived.Test.YtnkfbappnpnaoaaDoorCAx8
import Derived.Test.YtnkfbappnpnaoaaDoorCAx4
import Derived.Test.YtnkfbappnpnaoaaDoorCAx5
import Derived.Test.YtnkfbappnpnaoaaDoorCAx10
import Derived.Test.YtnkfbappnpnaoaaDoorCAx14
import Derived.Test.YtnkfbappnpnaoaaDoorCAx12
import Derived.Test.YtnkfbappnpnaoaaDoorCAx13
namespace Go.Proofs.YtnkfbappnpnaoaaDoor.Q
open Go.RowKit Go.Proofs.YtnkfbappnpnaoaaDoorW.PrintWords Go.Proofs.YtnkfbappnpnaoaaDoorW.PrintLast Go.Proofs.YtnkfbappnpnaoaaDoorW.PrintMore
attribute [local go_sem] max2_int min2_int max_two min_two max_three min_three max_four min_four   -- for this text's walks alone
set_option linter.unusedVariables false
set_option linter.unusedSimpArgs false

/-! The plain law: the text of a deed, as the program and as the reference make it. -/
theorem app_size (a b : ByteArray) : (a ++ b).size = a.size + b.size := ByteArray.size_append ..
theorem app_toList (a b : ByteArray) : (a ++ b).toList = a.toList ++ b.toList := by
  rw [Lib.toList_data, Lib.toList_data, Lib.toList_data, ByteArray.data_append, Array.toList_append]
def plainB (z : ByteArray) : Bool := !z.toList.isEmpty && !z.toList.any isGap
def numB (a : Int) : ByteArray := bs (num2 a.toNat)
theorem numB_size (a : Int) (h0 : 0 ≤ a) (h1 : a ≤ 99) : (numB a).size ≤ 2 := by
  have := (num2_len ⟨a.toNat, by omega⟩).1
  exact this
/-- The text of a deed. -/
def dText (k a b : Int) (z : ByteArray) : ByteArray :=
  if ¬ (0 ≤ a ∧ a ≤ 99 ∧ 0 ≤ b ∧ b ≤ 99) then ⟨#[]⟩
  else if k = 0 ∧ b = 0 ∧ z.toList = [] then (⟨#[98, 111, 100, 121, 32]⟩ : ByteArray) ++ numB a
  else if k = 1 ∧ a = 0 ∧ b = 0 ∧ plainB z = true then (⟨#[114, 117, 108, 101, 32]⟩ : ByteArray) ++ z
  else if k = 2 ∧ plainB z = true then ((((⟨#[97, 109, 101, 110, 100, 32]⟩ : ByteArray) ++ numB a) ++ (⟨#[32]⟩ : ByteArray)) ++ numB b) ++ (⟨#[32]⟩ : ByteArray) ++ z
  else if k = 3 ∧ z.toList = [] then (((⟨#[100, 114, 111, 112, 32]⟩ : ByteArray) ++ numB a) ++ (⟨#[32]⟩ : ByteArray)) ++ numB b
  else if k = 4 ∧ a = 0 ∧ b = 0 ∧ z.toList = [] then (⟨#[98, 97, 99, 107]⟩ : ByteArray)
  else ⟨#[]⟩
theorem itoa_numB (a : Int) (h0 : 0 ≤ a) (h1 : a ≤ 99) : strconv_Itoa.f a = some (numB a) := by
  unfold strconv_Itoa.f
  rw [if_pos ⟨h0, by omega⟩, decDigits_num2 _ (by omega)]
  rfl
theorem deedTextM_eq (k a b : Int) (z : ByteArray) (hz : z.size < 4294967281) : impl_deedTextM.f k a b z = some (dText k a b z) := by
  unfold impl_deedTextM.f impl_deedText.f dText
  by_cases hr : 0 ≤ a ∧ a ≤ 99 ∧ 0 ≤ b ∧ b ≤ 99
  · obtain ⟨ha0, ha1, hb0, hb1⟩ := hr
    have hna := numB_size a ha0 ha1
    have hnb := numB_size b hb0 hb1
    rw [if_neg (by omega), if_neg (by omega), if_neg (by omega), if_neg (by simp; omega)]
    have hbd : decide (b > 99) = false := decide_eq_false (by omega)
    rw [hbd]
    have hC : z.toList ≠ [] → strings_ContainsAny.f z (⟨#[32, 10]⟩ : ByteArray) = some (z.toList.any isGap) := by
      intro _
      unfold strings_ContainsAny.f
      rw [if_pos ⟨hz, by rw [Lib.toList_data]⟩, Lib.toList_data]
    have key : ∀ x3 : Bool, x3 = plainB z → impl_deedText.j1 8 x3 k a b z = some (dText k a b z) := by
      rintro x3 rfl
      unfold dText
      rw [if_neg (by omega)]
      simp only [impl_deedText.j1, impl_deedText.j2, impl_deedText.j3, impl_deedText.j4, impl_deedText.j5, itoa_numB a ha0 ha1, itoa_numB b hb0 hb1, Option.bind_some]
      have s5 : (⟨#[98, 111, 100, 121, 32]⟩ : ByteArray).size = 5 := rfl
      have s6 : (⟨#[97, 109, 101, 110, 100, 32]⟩ : ByteArray).size = 6 := rfl
      have s7 : (⟨#[100, 114, 111, 112, 32]⟩ : ByteArray).size = 5 := rfl
      have s8 : (⟨#[32]⟩ : ByteArray).size = 1 := rfl
      have t1 : 5 + (numB a).size ≤ 9223372036854775807 := by omega
      have t2 : 5 + z.size ≤ 9223372036854775807 := by omega
      have t3 : 6 + (numB a).size ≤ 9223372036854775807 := by omega
      simp only [app_size, s5, s6, s7, s8, t1, t2, t3, if_true, show 6 + (numB a).size + 1 ≤ 9223372036854775807 by omega, show 6 + (numB a).size + 1 + (numB b).size ≤ 9223372036854775807 by omega, show 6 + (numB a).size + 1 + (numB b).size + 1 ≤ 9223372036854775807 by omega, show 6 + (numB a).size + 1 + (numB b).size + 1 + z.size ≤ 9223372036854775807 by omega, show 5 + (numB a).size + 1 ≤ 9223372036854775807 by omega, show 5 + (numB a).size + 1 + (numB b).size ≤ 9223372036854775807 by omega]
      by_cases hp : plainB z = true <;> by_cases he : z.toList = [] <;> by_cases ha : a = 0 <;> by_cases hb : b = 0 <;> by_cases k0 : k = 0 <;> by_cases k1 : k = 1 <;> by_cases k2 : k = 2 <;> by_cases k3 : k = 3 <;> by_cases k4 : k = 4 <;> first | omega | simp_all
    have key2 := key _ rfl
    unfold dText at key2
    rw [if_neg (by omega)] at key2
    refine Eq.trans ?_ key2
    show (if false = true then (some (⟨#[]⟩ : ByteArray)) else if z.toList = [] then impl_deedText.j1 8 false k a b z else (strings_ContainsAny.f z (⟨#[32, 10]⟩ : ByteArray)).bind fun t401 => impl_deedText.j1 8 (!t401) k a b z) = _
    rw [if_neg Bool.false_ne_true]
    by_cases hE : z.toList = []
    · rw [if_pos hE]
      congr 1
      simp [plainB, hE]
    · rw [if_neg hE, hC hE, Option.bind_some]
      congr 1
      simp [plainB, hE]
  · rw [if_pos hr]
    split
    · simp [impl_deedText.j0]
    split
    · simp [impl_deedText.j0]
    split
    · simp [impl_deedText.j0]
    have hbd : decide (b > 99) = true := decide_eq_true (by omega)
    rw [hbd]
    simp [impl_deedText.j0]
/-! ### The reference's text of a deed -/
theorem bt_get (s : ByteArray) (i : Nat) (h : i < s.size) : bt s (i : Int) = ((s.toList[i]'(by rw [Lib.toList_data]; exact h)).toNat : Int) := by
  unfold bt
  rw [dif_pos (by simpa using h)]
  simp [Lib.toList_data]
  rfl
theorem l1Number_ev (a : Int) (h0 : 0 ≤ a) (h1 : a ≤ 99) : Ev (fun k => spec_l1Number.f k a) (numB a) := by
  have h : ∀ a : Fin 100, (spec_l1Number.f 3 (a.val : Int)).map (·.data) = some (num2 a.val).toArray := by decide +kernel
  have h2 := h ⟨a.toNat, by omega⟩
  have e : ((a.toNat : Nat) : Int) = a := by omega
  simp only [e] at h2
  refine Ev.of_mono (k0 := 3) (fun k r h => spec_l1Number.mono a k r h) ?_
  cases h3 : spec_l1Number.f 3 a with
  | none => simp [h3] at h2
  | some v =>
    simp [h3] at h2
    congr 1
    cases v
    simp at h2
    subst h2
    rfl
theorem l1In_eq (a b c : Int) : spec_l1In.f a b c = some (decide (b ≤ a ∧ a ≤ c)) := by
  unfold spec_l1In.f
  by_cases h : b ≤ a
  · rw [if_pos h]; simp [h]
  · rw [if_neg h]; simp [h]
theorem any_drop (l : List UInt8) (i : Nat) (h : i < l.length) : (l.drop i).any isGap = (isGap l[i] || (l.drop (i + 1)).any isGap) := by
  rw [List.drop_eq_getElem_cons h, List.any_cons]
theorem dloop (z : ByteArray) (hz : z.size < 4294967281) (a0 a1 a2 : Int) (R : ByteArray) : ∀ (n i : Nat) (p : Bool), z.size - i = n → i ≤ z.size →
    Ev (fun k => spec_DeedText.l0 k (p && !(z.toList.drop i).any isGap) (z.size : Int) a0 a1 a2 z) R → Ev (fun k => spec_DeedText.l0 k p (i : Int) a0 a1 a2 z) R
  | 0, i, p, hn, hi, h => by
    have e : i = z.size := by omega
    subst e
    rw [List.drop_eq_nil_of_le (by rw [Lib.toList_data]; exact Nat.le_refl _)] at h
    simpa using h
  | n + 1, i, p, hn, hi, h => by
    have hlt : i < z.size := by omega
    have hlt2 : i < z.toList.length := by rw [Lib.toList_data]; exact hlt
    have hw : wrap64 ((i : Int) + 1) = ((i + 1 : Nat) : Int) := by rw [w64 _ (by omega) (by omega)]; omega
    rw [any_drop _ _ hlt2] at h
    have ih := fun p h => dloop z hz a0 a1 a2 R n (i + 1) p (by omega) (by omega) h
    refine Ev.succ (g := fun k => if (i : Int) < (z.size : Int) then (if p = true then (if 0 ≤ (i : Int) then (if (bt z i) = 32 then (spec_DeedText.l0 k false (wrap64 ((i : Int) + 1)) a0 a1 a2 z) else (spec_DeedText.l0 k ((bt z i) != 10) (wrap64 ((i : Int) + 1)) a0 a1 a2 z)) else none) else (spec_DeedText.l0 k false (wrap64 ((i : Int) + 1)) a0 a1 a2 z)) else _) (fun k => rfl) ?_
    have c1 : (i : Int) < (z.size : Int) := by omega
    have c2 : 0 ≤ (i : Int) := by omega
    simp only [if_pos c1, if_pos c2, hw]
    have hb := bt_get z i hlt
    cases p
    · simp at h ⊢
      exact ih false (by simpa using h)
    · simp only [if_true]
      by_cases h32 : bt z (i : Int) = 32
      · simp only [if_pos h32]
        refine ih false ?_
        have : isGap z.toList[i] = true := by
          rw [hb] at h32
          simp [isGap]
          exact Or.inl (UInt8.toNat_inj.1 (by have : (32 : UInt8).toNat = 32 := rfl; omega))
        simpa [this] using h
      · simp only [if_neg h32]
        refine ih _ ?_
        have : (!isGap z.toList[i]) = (bt z (i : Int) != 10) := by
          have e1 : isGap z.toList[i] = (bt z (i : Int) == 10) := by
            rw [hb] at h32 ⊢
            unfold isGap
            rw [Bool.eq_iff_iff]
            simp
            constructor
            · rintro (e | e)
              · exfalso; apply h32; rw [e]; rfl
              · rw [e]; rfl
            · intro e
              exact Or.inr (UInt8.toNat_inj.1 (by have : (10 : UInt8).toNat = 10 := rfl; omega))
          rw [e1]; rfl
        rw [← this]
        simpa using h
theorem specDeedText_ev (k a b : Int) (z : ByteArray) (hz : z.size < 4294967281) : Ev (fun n => spec_DeedText.f n k a b z) (dText k a b z) := by
  have hz0 : decide ((z.size : Int) > 0) = !z.toList.isEmpty := by
    have : z.toList.length = z.size := by rw [Lib.toList_data]; rfl
    cases hl : z.toList with
    | nil =>
      rw [hl] at this
      have h0 : z.size = 0 := this.symm
      simp [h0]
    | cons x l =>
      rw [hl] at this
      have h0 : 0 < z.size := by rw [← this]; simp
      simp
      omega
  have key : Ev (fun n => spec_DeedText.l0 n (decide ((z.size : Int) > 0)) ((0 : Nat) : Int) k a b z) (dText k a b z) := by
    refine dloop z hz k a b _ z.size 0 _ rfl (Nat.zero_le _) ?_
    rw [hz0, List.drop_zero]
    change Ev (fun n => spec_DeedText.l0 n (plainB z) _ k a b z) _
    refine Ev.succ (g := fun n => if (z.size : Int) < (z.size : Int) then _ else ((spec_l1In.f a 0 99).bind fun t109 => (if t109 = true then ((spec_l1In.f b 0 99).bind fun t110 => (spec_DeedText.j1 n (plainB z) (!t110) k a b z)) else (spec_DeedText.j1 n (plainB z) true k a b z)))) (fun n => rfl) ?_
    simp only [if_neg (Int.lt_irrefl _), l1In_eq, Option.bind_some]
    unfold dText
    by_cases hr : 0 ≤ a ∧ a ≤ 99 ∧ 0 ≤ b ∧ b ≤ 99
    · obtain ⟨ha0, ha1, hb0, hb1⟩ := hr
      have hna := numB_size a ha0 ha1
      have hnb := numB_size b hb0 hb1
      have e1 : decide (0 ≤ a ∧ a ≤ 99) = true := decide_eq_true ⟨ha0, ha1⟩
      have e2 : decide (0 ≤ b ∧ b ≤ 99) = true := decide_eq_true ⟨hb0, hb1⟩
      rw [e1, e2, if_neg (by omega)]
      simp only [if_true]
      obtain ⟨ka, hka⟩ := l1Number_ev a ha0 ha1
      obtain ⟨kb, hkb⟩ := l1Number_ev b hb0 hb1
      refine ⟨max ka kb + 3, fun n hn => ?_⟩
      obtain ⟨m, rfl⟩ : ∃ m, n = m + 3 := ⟨n - 3, by omega⟩
      have A0 := hka m (by omega)
      have A1 := hka (m + 1) (by omega)
      have A2 := hka (m + 2) (by omega)
      have B0 := hkb m (by omega)
      have B1 := hkb (m + 1) (by omega)
      have B2 := hkb (m + 2) (by omega)
      clear hka hkb hn
      simp only [spec_DeedText.j1, spec_DeedText.j2, spec_DeedText.j3, A0, A1, A2, B0, B1, B2, Option.bind_some]
      have s5 : (⟨#[98, 111, 100, 121, 32]⟩ : ByteArray).size = 5 := rfl
      have s6 : (⟨#[97, 109, 101, 110, 100, 32]⟩ : ByteArray).size = 6 := rfl
      have s7 : (⟨#[100, 114, 111, 112, 32]⟩ : ByteArray).size = 5 := rfl
      have s8 : (⟨#[32]⟩ : ByteArray).size = 1 := rfl
      have t1 : 5 + (numB a).size ≤ 9223372036854775807 := by omega
      have t2 : 5 + z.size ≤ 9223372036854775807 := by omega
      have t3 : 6 + (numB a).size ≤ 9223372036854775807 := by omega
      simp only [app_size, s5, s6, s7, s8, t1, t2, t3, if_true, show 6 + (numB a).size + 1 ≤ 9223372036854775807 by omega, show 6 + (numB a).size + 1 + (numB b).size ≤ 9223372036854775807 by omega, show 6 + (numB a).size + 1 + (numB b).size + 1 ≤ 9223372036854775807 by omega, show 6 + (numB a).size + 1 + (numB b).size + 1 + z.size ≤ 9223372036854775807 by omega, show 5 + (numB a).size + 1 ≤ 9223372036854775807 by omega, show 5 + (numB a).size + 1 + (numB b).size ≤ 9223372036854775807 by omega]
      clear A0 A1 A2 B0 B1 B2 t1 t2 t3 s5 s6 s7 s8 e1 e2 hna hnb hz0
      by_cases hp : plainB z = true <;> by_cases he : z.toList = [] <;> by_cases ha : a = 0 <;> by_cases hb : b = 0 <;> by_cases k0 : k = 0 <;> by_cases k1 : k = 1 <;> by_cases k2 : k = 2 <;> by_cases k3 : k = 3 <;> by_cases k4 : k = 4 <;> first | omega | simp_all
    · rw [if_pos hr]
      refine ⟨1, fun n hn => ?_⟩
      obtain ⟨m, rfl⟩ : ∃ m, n = m + 1 := ⟨n - 1, by omega⟩
      by_cases h1 : 0 ≤ a ∧ a ≤ 99
      · have h2 : ¬ (0 ≤ b ∧ b ≤ 99) := fun h2 => hr ⟨h1.1, h1.2, h2.1, h2.2⟩
        simp [h1, decide_eq_false h2, spec_DeedText.j1]
      · simp [decide_eq_false h1, spec_DeedText.j1]
  exact key
end Go.Proofs.YtnkfbappnpnaoaaDoor.Q
