/- A part of this claim's proof: functions of the program as plain functions, with the proof that the code comes to their answers, and facts about them. Condition: none of its own. -/
import Derived.Laws.BitsAllLaws
import Derived.Test.YtnkfbappnpnaoaaDoorCJx1
import Derived.Test.YtnkfbappnpnaoaaDoorCJx3
import Derived.Test.YtnkfbappnpnaoaaDoorCJx4
import Derived.Test.YtnkfbappnpnaoaaDoorCJx2
import Derived.Test.YtnkfbappnpnaoaaDoorCJx6
import Derived.Test.YtnkfbappnpnaoaaDoorCJx5
import Derived.Test.YtnkfbappnpnaoaaDoorCJz
namespace Go.Proofs.YtnkfbappnpnaoaaDoor.Q
open Go.RowKit Go.Proofs.YtnkfbappnpnaoaaDoorW.PrintWords Go.Proofs.YtnkfbappnpnaoaaDoorW.PrintLast Go.Proofs.YtnkfbappnpnaoaaDoorW.PrintMore
attribute [local go_sem] max2_int min2_int max_two min_two max_three min_three max_four min_four   -- for this text's walks alone
set_option linter.unusedVariables false
set_option linter.unusedSimpArgs false
theorem app_size (a b : ByteArray) : (a ++ b).size = a.size + b.size := ByteArray.size_append ..
theorem app_toList (a b : ByteArray) : (a ++ b).toList = a.toList ++ b.toList := by
  rw [Lib.toList_data, Lib.toList_data, Lib.toList_data, ByteArray.data_append, Array.toList_append]
def plainB (z : ByteArray) : Bool := !z.toList.isEmpty && !z.toList.any isGap
def numB (a : Int) : ByteArray := bs (num2 a.toNat)
theorem numB_size (a : Int) (h0 : 0 ≤ a) (h1 : a ≤ 99) : (numB a).size ≤ 2 := by
  have := (num2_len ⟨a.toNat, by omega⟩).1
  exact this
def dText (k a b : Int) (z : ByteArray) : ByteArray :=
  if ¬ (0 ≤ a ∧ a ≤ 99 ∧ 0 ≤ b ∧ b ≤ 99) then ⟨#[]⟩
  else if k = 0 ∧ b = 0 ∧ z.toList = [] then (⟨#[98, 111, 100, 121, 32]⟩ : ByteArray) ++ numB a
  else if k = 1 ∧ a = 0 ∧ b = 0 ∧ plainB z = true then (⟨#[114, 117, 108, 101, 32]⟩ : ByteArray) ++ z
  else if k = 2 ∧ plainB z = true then ((((⟨#[97, 109, 101, 110, 100, 32]⟩ : ByteArray) ++ numB a) ++ (⟨#[32]⟩ : ByteArray)) ++ numB b) ++ (⟨#[32]⟩ : ByteArray) ++ z
  else if k = 3 ∧ z.toList = [] then (((⟨#[100, 114, 111, 112, 32]⟩ : ByteArray) ++ numB a) ++ (⟨#[32]⟩ : ByteArray)) ++ numB b
  else if k = 4 ∧ a = 0 ∧ b = 0 ∧ z.toList = [] then (⟨#[98, 97, 99, 107]⟩ : ByteArray)
  else ⟨#[]⟩
theorem itoa_numB (a : Int) (h0 : 0 ≤ a) (h1 : a ≤ 99) : strconv_Itoa.f a = some (numB a) := by
  unfold strconv_Itoa.f
  rw [if_pos ⟨h0, by omega⟩, decDigits_num2 _ (by omega)]
  rfl
theorem deedTextM_eq (k a b : Int) (z : ByteArray) (hz : z.size < 4294967281) : impl_deedTextM.f k a b z = some (dText k a b z) := by
  unfold impl_deedTextM.f impl_deedText.f dText
  by_cases hr : 0 ≤ a ∧ a ≤ 99 ∧ 0 ≤ b ∧ b ≤ 99
  · obtain ⟨ha0, ha1, hb0, hb1⟩ := hr
    have hna := numB_size a ha0 ha1
    have hnb := numB_size b hb0 hb1
    rw [if_neg (by omega), if_neg (by omega), if_neg (by omega), if_neg (by simp; omega)]
    have hbd : decide (b > 99) = false := decide_eq_false (by omega)
    rw [hbd]
    have hC : z.toList ≠ [] → strings_ContainsAny.f z (⟨#[32, 10]⟩ : ByteArray) = some (z.toList.any isGap) := by
      intro _
      unfold strings_ContainsAny.f
      rw [if_pos ⟨hz, by rw [Lib.toList_data]⟩, Lib.toList_data]
    have key : ∀ x3 : Bool, x3 = plainB z → impl_deedText.j1 8 x3 k a b z = some (dText k a b z) := by
      rintro x3 rfl
      unfold dText
      rw [if_neg (by omega)]
      simp only [impl_deedText.j1, impl_deedText.j2, impl_deedText.j3, impl_deedText.j4, impl_deedText.j5, itoa_numB a ha0 ha1, itoa_numB b hb0 hb1, Option.bind_some]
      have s5 : (⟨#[98, 111, 100, 121, 32]⟩ : ByteArray).size = 5 := rfl
      have s6 : (⟨#[97, 109, 101, 110, 100, 32]⟩ : ByteArray).size = 6 := rfl
      have s7 : (⟨#[100, 114, 111, 112, 32]⟩ : ByteArray).size = 5 := rfl
      have s8 : (⟨#[32]⟩ : ByteArray).size = 1 := rfl
      have t1 : 5 + (numB a).size ≤ 9223372036854775807 := by omega
      have t2 : 5 + z.size ≤ 9223372036854775807 := by omega
      have t3 : 6 + (numB a).size ≤ 9223372036854775807 := by omega
      simp only [app_size, s5, s6, s7, s8, t1, t2, t3, if_true, show 6 + (numB a).size + 1 ≤ 9223372036854775807 by omega, show 6 + (numB a).size + 1 + (numB b).size ≤ 9223372036854775807 by omega, show 6 + (numB a).size + 1 + (numB b).size + 1 ≤ 9223372036854775807 by omega, show 6 + (numB a).size + 1 + (numB b).size + 1 + z.size ≤ 9223372036854775807 by omega, show 5 + (numB a).size + 1 ≤ 9223372036854775807 by omega, show 5 + (numB a).size + 1 + (numB b).size ≤ 9223372036854775807 by omega]
      by_cases hp : plainB z = true <;> by_cases he : z.toList = [] <;> by_cases ha : a = 0 <;> by_cases hb : b = 0 <;> by_cases k0 : k = 0 <;> by_cases k1 : k = 1 <;> by_cases k2 : k = 2 <;> by_cases k3 : k = 3 <;> by_cases k4 : k = 4 <;> first | omega | simp_all
    have key2 := key _ rfl
    unfold dText at key2
    rw [if_neg (by omega)] at key2
    refine Eq.trans ?_ key2
    show (if false = true then (some (⟨#[]⟩ : ByteArray)) else if z.toList = [] then impl_deedText.j1 8 false k a b z else (strings_ContainsAny.f z (⟨#[32, 10]⟩ : ByteArray)).bind fun t401 => impl_deedText.j1 8 (!t401) k a b z) = _
    rw [if_neg Bool.false_ne_true]
    by_cases hE : z.toList = []
    · rw [if_pos hE]
      congr 1
      simp [plainB, hE]
    · rw [if_neg hE, hC hE, Option.bind_some]
      congr 1
      simp [plainB, hE]
  · rw [if_pos hr]
    split
    · simp [impl_deedText.j0]
    split
    · simp [impl_deedText.j0]
    split
    · simp [impl_deedText.j0]
    have hbd : decide (b > 99) = true := decide_eq_true (by omega)
    rw [hbd]
    simp [impl_deedText.j0]
theorem bt_get (s : ByteArray) (i : Nat) (h : i < s.size) : bt s (i : Int) = ((s.toList[i]'(by rw [Lib.toList_data]; exact h)).toNat : Int) := by
  unfold bt
  rw [dif_pos (by simpa using h)]
  simp [Lib.toList_data]
  rfl
theorem l1Number_ev (a : Int) (h0 : 0 ≤ a) (h1 : a ≤ 99) : Ev (fun k => spec_l1Number.f k a) (numB a) := by
  have h : ∀ a : Fin 100, (spec_l1Number.f 3 (a.val : Int)).map (·.data) = some (num2 a.val).toArray := by decide +kernel
  have h2 := h ⟨a.toNat, by omega⟩
  have e : ((a.toNat : Nat) : Int) = a := by omega
  simp only [e] at h2
  refine Ev.of_mono (k0 := 3) (fun k r h => spec_l1Number.mono a k r h) ?_
  cases h3 : spec_l1Number.f 3 a with
  | none => simp [h3] at h2
  | some v =>
    simp [h3] at h2
    congr 1
    cases v
    simp at h2
    subst h2
    rfl
theorem l1In_eq (a b c : Int) : spec_l1In.f a b c = some (decide (b ≤ a ∧ a ≤ c)) := by
  unfold spec_l1In.f
  by_cases h : b ≤ a
  · rw [if_pos h]; simp [h]
  · rw [if_neg h]; simp [h]
theorem any_drop (l : List UInt8) (i : Nat) (h : i < l.length) : (l.drop i).any isGap = (isGap l[i] || (l.drop (i + 1)).any isGap) := by
  rw [List.drop_eq_getElem_cons h, List.any_cons]
theorem dloop (z : ByteArray) (hz : z.size < 4294967281) (a0 a1 a2 : Int) (R : ByteArray) : ∀ (n i : Nat) (p : Bool), z.size - i = n → i ≤ z.size →
    Ev (fun k => spec_DeedText.l0 k (p && !(z.toList.drop i).any isGap) (z.size : Int) a0 a1 a2 z) R → Ev (fun k => spec_DeedText.l0 k p (i : Int) a0 a1 a2 z) R
  | 0, i, p, hn, hi, h => by
    have e : i = z.size := by omega
    subst e
    rw [List.drop_eq_nil_of_le (by rw [Lib.toList_data]; exact Nat.le_refl _)] at h
    simpa using h
  | n + 1, i, p, hn, hi, h => by
    have hlt : i < z.size := by omega
    have hlt2 : i < z.toList.length := by rw [Lib.toList_data]; exact hlt
    have hw : wrap64 ((i : Int) + 1) = ((i + 1 : Nat) : Int) := by rw [w64 _ (by omega) (by omega)]; omega
    rw [any_drop _ _ hlt2] at h
    have ih := fun p h => dloop z hz a0 a1 a2 R n (i + 1) p (by omega) (by omega) h
    refine Ev.succ (g := fun k => if (i : Int) < (z.size : Int) then (if p = true then (if 0 ≤ (i : Int) then (if (bt z i) = 32 then (spec_DeedText.l0 k false (wrap64 ((i : Int) + 1)) a0 a1 a2 z) else (spec_DeedText.l0 k ((bt z i) != 10) (wrap64 ((i : Int) + 1)) a0 a1 a2 z)) else none) else (spec_DeedText.l0 k false (wrap64 ((i : Int) + 1)) a0 a1 a2 z)) else _) (fun k => rfl) ?_
    have c1 : (i : Int) < (z.size : Int) := by omega
    have c2 : 0 ≤ (i : Int) := by omega
    simp only [if_pos c1, if_pos c2, hw]
    have hb := bt_get z i hlt
    cases p
    · simp at h ⊢
      exact ih false (by simpa using h)
    · simp only [if_true]
      by_cases h32 : bt z (i : Int) = 32
      · simp only [if_pos h32]
        refine ih false ?_
        have : isGap z.toList[i] = true := by
          rw [hb] at h32
          simp [isGap]
          exact Or.inl (UInt8.toNat_inj.1 (by have : (32 : UInt8).toNat = 32 := rfl; omega))
        simpa [this] using h
      · simp only [if_neg h32]
        refine ih _ ?_
        have : (!isGap z.toList[i]) = (bt z (i : Int) != 10) := by
          have e1 : isGap z.toList[i] = (bt z (i : Int) == 10) := by
            rw [hb] at h32 ⊢
            unfold isGap
            rw [Bool.eq_iff_iff]
            simp
            constructor
            · rintro (e | e)
              · exfalso; apply h32; rw [e]; rfl
              · rw [e]; rfl
            · intro e
              exact Or.inr (UInt8.toNat_inj.1 (by have : (10 : UInt8).toNat = 10 := rfl; omega))
          rw [e1]; rfl
        rw [← this]
        simpa using h
theorem specDeedText_ev (k a b : Int) (z : ByteArray) (hz : z.size < 4294967281) : Ev (fun n => spec_DeedText.f n k a b z) (dText k a b z) := by
  have hz0 : decide ((z.size : Int) > 0) = !z.toList.isEmpty := by
    have : z.toList.length = z.size := by rw [Lib.toList_data]; rfl
    cases hl : z.toList with
    | nil =>
      rw [hl] at this
      have h0 : z.size = 0 := this.symm
      simp [h0]
    | cons x l =>
      rw [hl] at this
      have h0 : 0 < z.size := by rw [← this]; simp
      simp
      omega
  have key : Ev (fun n => spec_DeedText.l0 n (decide ((z.size : Int) > 0)) ((0 : Nat) : Int) k a b z) (dText k a b z) := by
    refine dloop z hz k a b _ z.size 0 _ rfl (Nat.zero_le _) ?_
    rw [hz0, List.drop_zero]
    change Ev (fun n => spec_DeedText.l0 n (plainB z) _ k a b z) _
    refine Ev.succ (g := fun n => if (z.size : Int) < (z.size : Int) then _ else ((spec_l1In.f a 0 99).bind fun t109 => (if t109 = true then ((spec_l1In.f b 0 99).bind fun t110 => (spec_DeedText.j1 n (plainB z) (!t110) k a b z)) else (spec_DeedText.j1 n (plainB z) true k a b z)))) (fun n => rfl) ?_
    simp only [if_neg (Int.lt_irrefl _), l1In_eq, Option.bind_some]
    unfold dText
    by_cases hr : 0 ≤ a ∧ a ≤ 99 ∧ 0 ≤ b ∧ b ≤ 99
    · obtain ⟨ha0, ha1, hb0, hb1⟩ := hr
      have hna := numB_size a ha0 ha1
      have hnb := numB_size b hb0 hb1
      have e1 : decide (0 ≤ a ∧ a ≤ 99) = true := decide_eq_true ⟨ha0, ha1⟩
      have e2 : decide (0 ≤ b ∧ b ≤ 99) = true := decide_eq_true ⟨hb0, hb1⟩
      rw [e1, e2, if_neg (by omega)]
      simp only [if_true]
      obtain ⟨ka, hka⟩ := l1Number_ev a ha0 ha1
      obtain ⟨kb, hkb⟩ := l1Number_ev b hb0 hb1
      refine ⟨max ka kb + 3, fun n hn => ?_⟩
      obtain ⟨m, rfl⟩ : ∃ m, n = m + 3 := ⟨n - 3, by omega⟩
      have A0 := hka m (by omega)
      have A1 := hka (m + 1) (by omega)
      have A2 := hka (m + 2) (by omega)
      have B0 := hkb m (by omega)
      have B1 := hkb (m + 1) (by omega)
      have B2 := hkb (m + 2) (by omega)
      clear hka hkb hn
      simp only [spec_DeedText.j1, spec_DeedText.j2, spec_DeedText.j3, A0, A1, A2, B0, B1, B2, Option.bind_some]
      have s5 : (⟨#[98, 111, 100, 121, 32]⟩ : ByteArray).size = 5 := rfl
      have s6 : (⟨#[97, 109, 101, 110, 100, 32]⟩ : ByteArray).size = 6 := rfl
      have s7 : (⟨#[100, 114, 111, 112, 32]⟩ : ByteArray).size = 5 := rfl
      have s8 : (⟨#[32]⟩ : ByteArray).size = 1 := rfl
      have t1 : 5 + (numB a).size ≤ 9223372036854775807 := by omega
      have t2 : 5 + z.size ≤ 9223372036854775807 := by omega
      have t3 : 6 + (numB a).size ≤ 9223372036854775807 := by omega
      simp only [app_size, s5, s6, s7, s8, t1, t2, t3, if_true, show 6 + (numB a).size + 1 ≤ 9223372036854775807 by omega, show 6 + (numB a).size + 1 + (numB b).size ≤ 9223372036854775807 by omega, show 6 + (numB a).size + 1 + (numB b).size + 1 ≤ 9223372036854775807 by omega, show 6 + (numB a).size + 1 + (numB b).size + 1 + z.size ≤ 9223372036854775807 by omega, show 5 + (numB a).size + 1 ≤ 9223372036854775807 by omega, show 5 + (numB a).size + 1 + (numB b).size ≤ 9223372036854775807 by omega]
      clear A0 A1 A2 B0 B1 B2 t1 t2 t3 s5 s6 s7 s8 e1 e2 hna hnb hz0
      by_cases hp : plainB z = true <;> by_cases he : z.toList = [] <;> by_cases ha : a = 0 <;> by_cases hb : b = 0 <;> by_cases k0 : k = 0 <;> by_cases k1 : k = 1 <;> by_cases k2 : k = 2 <;> by_cases k3 : k = 3 <;> by_cases k4 : k = 4 <;> first | omega | simp_all
    · rw [if_pos hr]
      refine ⟨1, fun n hn => ?_⟩
      obtain ⟨m, rfl⟩ : ∃ m, n = m + 1 := ⟨n - 1, by omega⟩
      by_cases h1 : 0 ≤ a ∧ a ≤ 99
      · have h2 : ¬ (0 ≤ b ∧ b ≤ 99) := fun h2 => hr ⟨h1.1, h1.2, h2.1, h2.2⟩
        simp [h1, decide_eq_false h2, spec_DeedText.j1]
      · simp [decide_eq_false h1, spec_DeedText.j1]
  exact key
end Go.Proofs.YtnkfbappnpnaoaaDoor.Q
namespace Go.Proofs.YtnkfbappnpnaoaaDoor.Q
open Go.RowKit Go.Proofs.YtnkfbappnpnaoaaDoorW.PrintWords Go.Proofs.YtnkfbappnpnaoaaDoorW.PrintLast Go.Proofs.YtnkfbappnpnaoaaDoorW.PrintMore
attribute [local go_sem] max2_int min2_int max_two min_two max_three min_three max_four min_four   -- for this text's walks alone
set_option linter.unusedVariables false
set_option linter.unusedSimpArgs false
def spec_l1Heads.l0 : Nat → Int → Int → Option (Int)
  | 0, _, _ => none
  | k + 1, x0, x3 => if x0 > 0 then (spec_l1Heads.l0 k (wrap64 (Int.tdiv x0 2)) (wrap64 (x3 + (Int.tmod x0 2)))) else (some x3)
def spec_l1Heads.f (k : Nat) (a0 : Int) : Option (Int) := spec_l1Heads.l0 k a0 0
set_option maxHeartbeats 8000000 in
set_option maxRecDepth 100000 in
theorem spec_l1Heads.calls (k : Nat) (a0 : Int) (r : Int) (w : World) (h : spec_l1Heads.f k a0 = some r) :
    Calls Tryd.prog 54 #[.int .i64 a0] w fun e w' => e = .returned (.int .i64 r) ∧ Drawn0 w w' := by
 have H : (spec_l1Heads.l0 k a0 0) = some r := h
 clear h
 have H' := Aside0.mk H
 clear H
 go_enter Tryd.func54, Tryd.ntmps54
 go_wp2
 go_loopg [0, 3] k (fun kq v0 v3 w' => ∃ (x0_1 : Int) (x3_1 : Int), v0 = .int .i64 x0_1 ∧ v3 = .int .i64 x3_1 ∧ Aside0 (spec_l1Heads.l0 kq x0_1 x3_1 = some r) ∧ Aside0 (kq ≤ k) ∧ Drawn0 w w')
 case atStart => exact ⟨(a0), (0), zcj_4, zcj_4, H', ⟨Nat.le_refl _⟩, zcj_21⟩
 case round =>(
 clear H'
 obtain ⟨x0_1, x3_1, rfl, rfl, HA, HK1, ⟨m1, rfl⟩⟩ := hrel
 cases gk with
 | zero => exact absurd HA.out (by simp [spec_l1Heads.l0])
 | succ k1 =>(
 have H := HA.out
 clear HA
 simp only [spec_l1Heads.l0] at H
 by_cases c2 : x0_1 > 0
 {
 rw [if_pos c2] at H
 have c2b0 : decide (0 < x0_1) = true := decide_eq_true c2
 clear c2
 have H' := Aside0.mk H
 clear H
 go_wp2
 go_roundg k1
 case measure => have := HK1.out; omega
 case rel => exact ⟨(wrap64 (Int.tdiv x0_1 2)), (wrap64 (x3_1 + (Int.tmod x0_1 2))), zcj_4, zcj_4, H', ⟨by have := HK1.out; omega⟩, zcj_21⟩
 }
 {
 rw [if_neg c2] at H
 have c2b0 : decide (0 < x0_1) = false := decide_eq_false c2
 clear c2
 obtain rfl := Option.some.inj H
 go_wp2
 go_ret
 exact ⟨zcj_4, zcj_21⟩
 }
 )
 )
end Go.Proofs.YtnkfbappnpnaoaaDoor.Q
namespace Go.Proofs.YtnkfbappnpnaoaaDoor.Q
open Go.RowKit Go.Proofs.YtnkfbappnpnaoaaDoorW.PrintWords Go.Proofs.YtnkfbappnpnaoaaDoorW.PrintLast Go.Proofs.YtnkfbappnpnaoaaDoorW.PrintMore
attribute [local go_sem] max2_int min2_int max_two min_two max_three min_three max_four min_four   -- for this text's walks alone
set_option linter.unusedVariables false
set_option linter.unusedSimpArgs false
def IsS63 (w0 W : World) (g : Nat) (f0 : List Int) (f1 : Int) : Prop := ∃ A0 c0, W.heap[g]? = some (.cells #[.slice A0 f0.length c0, .int .i64 f1] 63 (0, 0)) ∧ w0.heap.size ≤ g ∧ Kd.C (Kd.int .u8) w0 A0 f0.length f0
theorem IsS63.grown {w0 W : World} {g : Nat} {f0 : List Int} {f1 : Int} {W1 : World} {row : Option Nat} (h : IsS63 w0 W g f0 f1) (hw : W.grownBy W1 row) (hne : some g ≠ row) : IsS63 w0 W1 g f0 f1 := by
 obtain ⟨A0, c0, hb, hg, hr0⟩ := h
 exact ⟨A0, c0, blk_grown hb hw hne, hg, hr0⟩
theorem IsS63.own_neN {w0 W : World} {g : Nat} {f0 : List Int} {f1 : Int} {α : Type} {d : Kd α} {e : Nat} {base : Nat} {ok : Nat → Prop} {v : Value} {xs : List α} (h : IsS63 w0 W g f0 f1) (ho : Kd.N d e W base ok v xs) (ht : e ≠ 63) : some g ≠ v.ownBlock := by
 obtain ⟨A0, c0, hb, hg, hr0⟩ := h
 exact Kd.N_ne ho hb ht
theorem IsS63.fresh {w0 W : World} {g : Nat} {f0 : List Int} {f1 : Int} (h : IsS63 w0 W g f0 f1) : ∀ k, W.heap.size ≤ k → k ≠ g := by
 obtain ⟨A0, c0, hb, hg, hr0⟩ := h
 exact Kd.freshB hb
theorem IsS63.below {w0 W : World} {g : Nat} {f0 : List Int} {f1 : Int} {W1 : World} (h : IsS63 w0 W g f0 f1) (hw : Below W.heap.size W W1) : IsS63 w0 W1 g f0 f1 := h.grown (grown_of_below hw none) (by simp)
theorem IsS63.drewN {w0 W : World} {g : Nat} {f0 : List Int} {f1 : Int} (h : IsS63 w0 W g f0 f1) (m : Nat) : IsS63 w0 (W.drewN m) g f0 f1 := h
theorem IsS63.drew {w0 W : World} {g : Nat} {f0 : List Int} {f1 : Int} (h : IsS63 w0 W g f0 f1) : IsS63 w0 W.drew g f0 f1 := h
theorem IsS63.apart {w0 W : World} {g : Nat} {f0 : List Int} {f1 : Int} {α : Type} {d : Kd α} {e : Nat} {base : Nat} {ok : Nat → Prop} {v : Value} {xs : List α} (h : IsS63 w0 W g f0 f1) (ho : d.R e W base ok v xs) (ht : ∀ q, q ∈ e :: d.E → q ≠ 63) : d.R e W base (fun k => ok k ∧ k ≠ g) v xs := by
 obtain ⟨A0, c0, hb, hg, hr0⟩ := h
 exact Kd.R_types ho hb ht
theorem IsS63.own_ne {w0 W : World} {g : Nat} {f0 : List Int} {f1 : Int} {α : Type} {d : Kd α} {e : Nat} {base : Nat} {ok : Nat → Prop} {v : Value} {xs : List α} (h : IsS63 w0 W g f0 f1) (ho : d.R e W base ok v xs) (ht : e ≠ 63) : some g ≠ v.ownBlock := by
 obtain ⟨A0, c0, hb, hg, hr0⟩ := h
 exact Kd.R_ne ho hb ht
theorem IsS63.lt {w0 W : World} {g : Nat} {f0 : List Int} {f1 : Int} (h : IsS63 w0 W g f0 f1) : g < W.heap.size := by
 obtain ⟨A0, c0, hb, hg, hr0⟩ := h
 exact blk_lt hb
theorem IsS63.ge {w0 W : World} {g : Nat} {f0 : List Int} {f1 : Int} (h : IsS63 w0 W g f0 f1) : w0.heap.size ≤ g := by
 obtain ⟨A0, c0, hb, hg, hr0⟩ := h
 exact hg
theorem IsS63.far {w0 W : World} {g : Nat} {f0 : List Int} {f1 : Int} {p : Addr} (h : IsS63 w0 W g f0 f1) (hne : g ≠ p.block) (u : Value) : IsS63 w0 (W.setCell p u) g f0 f1 := by
 obtain ⟨A0, c0, hb, hg, hr0⟩ := h
 exact ⟨A0, c0, blk_far hb hne u, hg, hr0⟩
theorem cellS63_0 {W : World} {g : Nat} {A0 : Option Addr} {c0 : Nat} {f0 : List Int} {f1 : Int} (h : W.heap[g]? = some (.cells #[.slice A0 f0.length c0, .int .i64 f1] 63 (0, 0))) : W.cell? ⟨g, 0, none⟩ = some (.slice A0 f0.length c0) := (blk_cell h 0).trans rfl
theorem cellS63_1 {W : World} {g : Nat} {A0 : Option Addr} {c0 : Nat} {f0 : List Int} {f1 : Int} (h : W.heap[g]? = some (.cells #[.slice A0 f0.length c0, .int .i64 f1] 63 (0, 0))) : W.cell? ⟨g, 1, none⟩ = some (.int .i64 f1) := (blk_cell h 1).trans rfl
theorem IsS63.set_1 {w0 W : World} {g : Nat} {f0 : List Int} {f1 : Int} (h : IsS63 w0 W g f0 f1) (x : Int) : IsS63 w0 (W.setCell ⟨g, 1, none⟩ (.int .i64 x)) g f0 x := by
 obtain ⟨A0, c0, hb, hg, hr0⟩ := h
 exact ⟨A0, c0, by simpa using blk_set hb 1 (.int .i64 x), hg, hr0⟩
def spec_l20Open.f (l0 : List Int) : Option (List Int × Int) := if (l0.length : Int) > 2000 then (if 2000 ≤ (l0.length : Int) then (some (l0.take 2000, 0)) else (none)) else (some (l0, 0))
set_option maxHeartbeats 8000000 in
set_option maxRecDepth 100000 in
theorem spec_l20Open.calls (A0 : Option Addr) (c0 : Nat) (l0 : List Int) (r1 : List Int) (r2 : Int) (w0 w : World) (hB : Below w0.heap.size w0 w) (hr0 : Kd.C (Kd.int .u8) w0 A0 l0.length l0) (hc0 : l0.length ≤ c0) (h : spec_l20Open.f l0 = some (r1, r2)) :
    Calls Tryd.prog 26 #[.slice A0 l0.length c0] w fun e w' => ∃ g_ : Nat, e = .returned (.pointer (some ⟨g_, 0, none⟩)) ∧ IsS63 w0 w' g_ r1 r2 ∧ Below w0.heap.size w0 w' ∧ Below w.heap.size w w' := by
 have hu63 := Tryd.underlying63
 have HR0 := Aside0.mk hr0
 have HC0 := Aside0.mk hc0
 clear hr0 hc0
 have HBW := Aside0.mk (Below.refl w.heap.size w)
 have HW0 := Aside0.mk hB.size
 have HB := Aside0.mk hB
 clear hB
 have H : (if (l0.length : Int) > 2000 then (if 2000 ≤ (l0.length : Int) then (some (l0.take 2000, 0)) else (none)) else (some (l0, 0))) = some (r1, r2) := h
 clear h
 by_cases c2 : (l0.length : Int) > 2000
 {
 rw [if_pos c2] at H
 have c2b0 : decide (2000 < (l0.length : Int)) = true := decide_eq_true c2
 have c2b1 : decide (2000 < l0.length) = true := decide_eq_true (by omega)
 clear c2
 by_cases c3 : 2000 ≤ (l0.length : Int)
 {
 rw [if_pos c3] at H
 have c3b0 := eq_true c3
 have c3b1 : decide (2000 ≤ (l0.length : Int)) = true := decide_eq_true c3
 clear c3
 simp only [Option.some.injEq, Prod.mk.injEq] at H
 obtain ⟨rfl, rfl⟩ := H
 obtain ⟨i04, hi04, _, hsz4, _⟩ := info_parts info5
 obtain ⟨hcut4, hA4, hC4⟩ := print_take_of (P := Tryd.prog) (Value.int .u8) 0 28 5 .i64 Tryd.underlying28 hi04 hsz4 A0 c0 l0 2000 (by omega) (of_decide_eq_true zcj_2) HC0.out
 have HR227 := Aside0.mk (Kd.C_of_reads (h1 := fun _ => rfl) (hA4 _ (Kd.reads_of_C HR0.out)))
 have HC227 := Aside0.mk hC4
 clear hA4 hC4 hi04 hsz4
 go_enter Tryd.func26, Tryd.ntmps26
 go_wp2_with (first | ((with_reducible refine gate_dst (N := 10) rfl ?_); refine box_event ?hg (N := 10) ?hd (cs := #[.slice A0 (l0.take 2000).length c0, .int .i64 0]) (t := 63) ?hr ?_; (case hd => rfl); (case hg => rfl); (case hr => exact zcj_12); intro gb228 hg w5 hbox hb; have n0_ := Aside0.mk (below_step HBW.out hb); have n1_ := Aside0.mk (below_step zcj_5 hb); have n2_ := Aside0.mk (hbox); have n3_ := Aside0.mk ((zcj_93 : w.heap.size ≤ gb228)); have n4_ := Aside0.mk ((Nat.le_trans HW0.out (zcj_93 : w.heap.size ≤ gb228) : w0.heap.size ≤ gb228)); clear HBW; clear HB; have HBW := n0_; have HB := n1_; have BK228 := n2_; have GW228 := n3_; have GE228 := n4_; clear n0_ n1_ n2_ n3_ n4_; clear hb hbox hg))
 go_ret
 exact ⟨_, rfl, (show IsS63 w0 _ gb228 (l0.take 2000) 0 from ⟨_, _, by (with_reducible repeat (first | refine blk_drewN ?_ _ | refine blk_drew ?_ | refine blk_alloc ?_ _)); exact BK228.out, GE228.out, HR227.out⟩), by repeat (first | (with_reducible first | exact HB.out | apply below_alloc | apply pw_below_drewN | apply below_drew1 | refine below_set ?_ GE228.out) | exact HB.out), by repeat (first | (with_reducible first | exact HBW.out | apply below_alloc | apply pw_below_drewN | apply below_drew1 | refine below_set ?_ GW228.out) | exact HBW.out)⟩
 }
 {
 rw [if_neg c3] at H
 exact absurd H (by simp)
 }
 }
 {
 rw [if_neg c2] at H
 have c2b0 : decide (2000 < (l0.length : Int)) = false := decide_eq_false c2
 have c2b1 : decide (2000 < l0.length) = false := decide_eq_false (by omega)
 clear c2
 simp only [Option.some.injEq, Prod.mk.injEq] at H
 obtain ⟨rfl, rfl⟩ := H
 go_enter Tryd.func26, Tryd.ntmps26
 go_wp2_with (first | ((with_reducible refine gate_dst (N := 10) rfl ?_); refine box_event ?hg (N := 10) ?hd (cs := #[.slice A0 l0.length c0, .int .i64 0]) (t := 63) ?hr ?_; (case hd => rfl); (case hg => rfl); (case hr => exact zcj_12); intro gb229 hg w6 hbox hb; have n0_ := Aside0.mk (below_step HBW.out hb); have n1_ := Aside0.mk (below_step zcj_5 hb); have n2_ := Aside0.mk (hbox); have n3_ := Aside0.mk ((zcj_93 : w.heap.size ≤ gb229)); have n4_ := Aside0.mk ((Nat.le_trans HW0.out (zcj_93 : w.heap.size ≤ gb229) : w0.heap.size ≤ gb229)); clear HBW; clear HB; have HBW := n0_; have HB := n1_; have BK229 := n2_; have GW229 := n3_; have GE229 := n4_; clear n0_ n1_ n2_ n3_ n4_; clear hb hbox hg))
 go_ret
 exact ⟨_, rfl, (show IsS63 w0 _ gb229 l0 0 from ⟨_, _, by (with_reducible repeat (first | refine blk_drewN ?_ _ | refine blk_drew ?_ | refine blk_alloc ?_ _)); exact BK229.out, GE229.out, HR0.out⟩), by repeat (first | (with_reducible first | exact HB.out | apply below_alloc | apply pw_below_drewN | apply below_drew1 | refine below_set ?_ GE229.out) | exact HB.out), by repeat (first | (with_reducible first | exact HBW.out | apply below_alloc | apply pw_below_drewN | apply below_drew1 | refine below_set ?_ GW229.out) | exact HBW.out)⟩
 }
end Go.Proofs.YtnkfbappnpnaoaaDoor.Q
namespace Go.Proofs.YtnkfbappnpnaoaaDoor.Q
open Go.RowKit Go.Proofs.YtnkfbappnpnaoaaDoorW.PrintWords Go.Proofs.YtnkfbappnpnaoaaDoorW.PrintLast Go.Proofs.YtnkfbappnpnaoaaDoorW.PrintMore
attribute [local go_sem] max2_int min2_int max_two min_two max_three min_three max_four min_four   -- for this text's walks alone
set_option linter.unusedVariables false
set_option linter.unusedSimpArgs false
def spec_l20Rd_pick.j0 : Nat → Int → Bool → List Int → Int → Option (Int × Int)
  | 0, _, _, _, _ => none
  | k + 1, x1, x24, x1000, x1001 => if x24 = true then (some (0, x1001)) else (if (wrap64 (x1001 - 1)) < (x1000.length : Int) then (if 0 ≤ (wrap64 (x1001 - 1)) then (if x1 = 0 then (none) else (some (Int.tmod (wrap64 (rd x1000 (wrap64 (x1001 - 1)))) x1, x1001))) else (none)) else (if (x1000.length : Int) = 0 then (none) else (if 0 ≤ (Int.tmod (wrap64 (x1001 - 1)) (x1000.length : Int)) then (if (Int.tmod (wrap64 (x1001 - 1)) (x1000.length : Int)) < (x1000.length : Int) then (if 0 ≤ (Int.tmod (wrap64 ((wrap64 ((wrap64 (x1001 - 1)) * 7)) + 3)) (x1000.length : Int)) then (if (Int.tmod (wrap64 ((wrap64 ((wrap64 (x1001 - 1)) * 7)) + 3)) (x1000.length : Int)) < (x1000.length : Int) then (if x1 = 0 then (none) else (some (Int.tmod (Go.bits .xor .i64 (wrap64 ((wrap64 ((wrap64 ((wrap64 ((wrap64 (rd x1000 (Int.tmod (wrap64 (x1001 - 1)) (x1000.length : Int)))) * 131)) + (wrap64 ((wrap64 (rd x1000 (Int.tmod (wrap64 ((wrap64 ((wrap64 (x1001 - 1)) * 7)) + 3)) (x1000.length : Int)))) * 1117)))) + (wrap64 ((wrap64 (x1001 - 1)) * 29)))) + (wrap64 ((wrap64 (Int.tdiv (wrap64 (x1001 - 1)) (x1000.length : Int))) * 53)))) (wrap64 (Int.tdiv (wrap64 ((wrap64 ((wrap64 ((wrap64 ((wrap64 (rd x1000 (Int.tmod (wrap64 (x1001 - 1)) (x1000.length : Int)))) * 131)) + (wrap64 ((wrap64 (rd x1000 (Int.tmod (wrap64 ((wrap64 ((wrap64 (x1001 - 1)) * 7)) + 3)) (x1000.length : Int)))) * 1117)))) + (wrap64 ((wrap64 (x1001 - 1)) * 29)))) + (wrap64 ((wrap64 (Int.tdiv (wrap64 (x1001 - 1)) (x1000.length : Int))) * 53)))) 64))) x1, x1001))) else (none)) else (none)) else (none)) else (none))))
def spec_l20Rd_pick.f (k : Nat) (s0_0 : List Int) (s0_1 : Int) (a1 : Int) : Option (Int × Int) := if a1 < 1 then (spec_l20Rd_pick.j0 k a1 true s0_0 (wrap64 (s0_1 + 1))) else (spec_l20Rd_pick.j0 k a1 ((s0_0.length : Int) == 0) s0_0 (wrap64 (s0_1 + 1)))
set_option maxHeartbeats 8000000 in
set_option maxRecDepth 100000 in
theorem spec_l20Rd_pick.calls (k : Nat) (g : Nat) (s0_0 : List Int) (s0_1 : Int) (a1 : Int) (r1 : Int) (r2 : Int) (w0 w : World) (hI : IsS63 w0 w g s0_0 s0_1) (hB : Below w0.heap.size w0 w) (h : spec_l20Rd_pick.f k s0_0 s0_1 a1 = some (r1, r2)) :
    Calls Tryd.prog 34 #[.pointer (some ⟨g, 0, none⟩), .int .i64 a1] w fun e w' => e = .returned (.int .i64 r1) ∧ IsS63 w0 w' g s0_0 r2 ∧ Below w0.heap.size w0 w' ∧ KeepBut w w' g none := by
 have HI0 := Aside0.mk hI
 have HK := Aside0.mk (KeepBut.refl w g none)
 have HL := Aside0.mk hB.size
 clear hI
 have HW0 := Aside0.mk hB.size
 have HB := Aside0.mk hB
 clear hB
 have H : (if a1 < 1 then (spec_l20Rd_pick.j0 k a1 true s0_0 (wrap64 (s0_1 + 1))) else (spec_l20Rd_pick.j0 k a1 ((s0_0.length : Int) == 0) s0_0 (wrap64 (s0_1 + 1)))) = some (r1, r2) := h
 clear h
 have HC3 := Aside0.mk H
 clear H
 obtain ⟨ASz4_0, cSz4_0, HGz4, hgz4, HSz4_0⟩ := HI0.out
 have hcz4_0 := cellS63_0 HGz4
 have hcz4_1 := cellS63_1 HGz4
 have hfz4_1 := blk_frozen HGz4 1
 clear HGz4 hgz4
 go_enter Tryd.func34, Tryd.ntmps34
 go_upto_region 2 with (fail)
 repeat (go_quiet (fail); go_upto_region 2 with (fail))
 go_cut [24] (fun v24 wc => ∃ (kq : Nat) (x24_2 : Bool), v24 = .bool x24_2 ∧ Aside0 (spec_l20Rd_pick.j0 kq a1 x24_2 s0_0 (wrap64 (s0_1 + 1)) = some (r1, r2)) ∧ Aside0 (kq ≤ k) ∧ Aside0 (IsS63 w0 wc g s0_0 (wrap64 (s0_1 + 1))) ∧ Aside0 (KeepBut w wc g none) ∧ Aside0 (Below w0.heap.size w0 wc))
 case first =>(
 have H := HC3.out
 clear HC3
 by_cases c5 : a1 < 1
 {
 rw [if_pos c5] at H
 have c5b0 : decide (a1 < 1) = true := decide_eq_true c5
 clear c5
 (first | rw [c5b0] | (simp only [i64_w, i32_w]; rw [c5b0]) | skip)
 have H' := Aside0.mk H
 clear H
 go_wp2
 repeat (go_quiet (fail); try go_wp2)
 go_meet
 case rel => exact ⟨_, (true), zcj_4, H', ⟨zcj_38⟩, ⟨zcj_25⟩, ⟨zcj_17⟩, ⟨zcj_26⟩⟩
 }
 {
 rw [if_neg c5] at H
 have c5b0 : decide (a1 < 1) = false := decide_eq_false c5
 clear c5
 (first | rw [c5b0] | (simp only [i64_w, i32_w]; rw [c5b0]) | skip)
 have H' := Aside0.mk H
 clear H
 obtain ⟨ASz6_0, cSz6_0, HGz6, hgz6, HSz6_0⟩ := HI0.out
 have hcz6_0 := cellS63_0 HGz6
 have hcz6_1 := cellS63_1 HGz6
 have hfz6_1 := blk_frozen HGz6 1
 clear HGz6 hgz6
 go_wp2
 repeat (go_quiet (fail); try go_wp2)
 go_meet
 case rel => exact ⟨_, (((s0_0.length : Int) == 0)), zcj_4, H', ⟨zcj_38⟩, ⟨zcj_25⟩, ⟨zcj_17⟩, ⟨zcj_26⟩⟩
 }
 )
 case rest =>(
 clear HC3
 try clear p2
 try clear c3
 try clear c5
 try clear c5b0
 try clear p6
 try clear hcz4_0
 try clear hcz4_1
 try clear hcz6_0
 try clear hcz6_1
 try clear hfz4_1
 try clear hfz6_1
 obtain ⟨kq, x24_2, rfl, HA, HJ2, HI0, HK, HB⟩ := hcut
 cases kq with
 | zero => exact absurd HA.out (by simp [spec_l20Rd_pick.j0])
 | succ kj2 =>(
 have H := HA.out
 clear HA
 simp only [spec_l20Rd_pick.j0] at H
 by_cases c7 : x24_2 = true
 {
 subst c7
 rw [if_pos rfl] at H
 simp only [Option.some.injEq, Prod.mk.injEq] at H
 obtain ⟨rfl, rfl⟩ := H
 go_wp2
 repeat (go_quiet (fail); try go_wp2)
 go_ret
 exact ⟨zcj_13, zcj_25, zcj_26, zcj_17⟩
 }
 {
 replace c7 := Bool.eq_false_iff.mpr c7
 subst c7
 rw [if_neg (show ¬ (false = true) by decide)] at H
 by_cases c8 : (wrap64 ((wrap64 (s0_1 + 1)) - 1)) < (s0_0.length : Int)
 {
 rw [if_pos c8] at H
 have c8b0 : decide ((wrap64 ((wrap64 (s0_1 + 1)) - 1)) < (s0_0.length : Int)) = true := decide_eq_true c8
 clear c8
 obtain ⟨ji9, hji9⟩ : ∃ j_ : Int, (wrap64 ((wrap64 (s0_1 + 1)) - 1)) = j_ := ⟨_, rfl⟩
 replace H : (if 0 ≤ (ji9) then (if a1 = 0 then (none) else (some (Int.tmod (wrap64 (rd s0_0 (ji9))) a1, (wrap64 (s0_1 + 1))))) else (none)) = some (r1, r2) := by first | (rw [hji9] at H; exact H) | (simp only [hji9] at H ⊢; exact H)
 (try rw [hji9] at c8b0)
 have hji9w : (IntKind.i64.wrap ((wrap64 (s0_1 + 1)) - 1)) = ji9 := (i64_w _).trans hji9
 by_cases c10 : 0 ≤ (ji9)
 {
 rw [if_pos c10] at H
 have c10b0 : decide (0 ≤ (ji9)) = true := decide_eq_true c10
 clear c10
 by_cases c11 : a1 = 0
 {
 rw [if_pos c11] at H
 exact absurd H (by simp)
 }
 {
 rw [if_neg c11] at H
 have c11b0 : (a1 == 0) = false := beq_eq_false_iff_ne.mpr c11
 have c11b1 : (a1 != 0) = true := bne_iff_ne.mpr c11
 simp only [Option.some.injEq, Prod.mk.injEq] at H
 obtain ⟨rfl, rfl⟩ := H
 obtain ⟨ASz12_0, cSz12_0, HGz12, hgz12, HSz12_0⟩ := HI0.out
 have hcz12_0 := cellS63_0 HGz12
 have hcz12_1 := cellS63_1 HGz12
 have hfz12_1 := blk_frozen HGz12 1
 clear HGz12 hgz12
 have p230 : 0 ≤ ((ji9) : Int) := of_decide_eq_true zcj_2
 have q230 : (ji9) < (s0_0.length : Int) := of_decide_eq_true zcj_2
 obtain ⟨ad230, e230, hx230_0⟩ := Kd.at_int HSz12_0 (ji9) p230 q230
 cases e230
 replace hx230_0 := pw_cell_below HB.out hx230_0
 replace p230 := eq_true p230
 replace q230 := eq_true q230
 go_wp2
 repeat (go_quiet (fail); try go_wp2)
 go_ret
 exact ⟨by first | rfl | (simp [errW_none, errW_some] <;> rfl) | (simp only [← hji9]; first | rfl | (simp [errW_none, errW_some] <;> rfl)) | (simp [*, errW_none, errW_some] <;> rfl), zcj_25, zcj_26, zcj_17⟩
 }
 }
 {
 rw [if_neg c10] at H
 exact absurd H (by simp)
 }
 }
 {
 rw [if_neg c8] at H
 have c8b0 : decide ((wrap64 ((wrap64 (s0_1 + 1)) - 1)) < (s0_0.length : Int)) = false := decide_eq_false c8
 clear c8
 by_cases c13 : (s0_0.length : Int) = 0
 {
 rw [if_pos c13] at H
 exact absurd H (by simp)
 }
 {
 rw [if_neg c13] at H
 have c13b0 : ((s0_0.length : Int) == 0) = false := beq_eq_false_iff_ne.mpr c13
 have c13b1 : ((s0_0.length : Int) != 0) = true := bne_iff_ne.mpr c13
 have c13b2 : ¬ (s0_0 = []) := fun h_ => c13 (by rw [h_]; rfl)
 obtain ⟨ji14, hji14⟩ : ∃ j_ : Int, (Int.tmod (wrap64 ((wrap64 (s0_1 + 1)) - 1)) (s0_0.length : Int)) = j_ := ⟨_, rfl⟩
 replace H : (if 0 ≤ (ji14) then (if (ji14) < (s0_0.length : Int) then (if 0 ≤ (Int.tmod (wrap64 ((wrap64 ((wrap64 ((wrap64 (s0_1 + 1)) - 1)) * 7)) + 3)) (s0_0.length : Int)) then (if (Int.tmod (wrap64 ((wrap64 ((wrap64 ((wrap64 (s0_1 + 1)) - 1)) * 7)) + 3)) (s0_0.length : Int)) < (s0_0.length : Int) then (if a1 = 0 then (none) else (some (Int.tmod (Go.bits .xor .i64 (wrap64 ((wrap64 ((wrap64 ((wrap64 ((wrap64 (rd s0_0 (ji14))) * 131)) + (wrap64 ((wrap64 (rd s0_0 (Int.tmod (wrap64 ((wrap64 ((wrap64 ((wrap64 (s0_1 + 1)) - 1)) * 7)) + 3)) (s0_0.length : Int)))) * 1117)))) + (wrap64 ((wrap64 ((wrap64 (s0_1 + 1)) - 1)) * 29)))) + (wrap64 ((wrap64 (Int.tdiv (wrap64 ((wrap64 (s0_1 + 1)) - 1)) (s0_0.length : Int))) * 53)))) (wrap64 (Int.tdiv (wrap64 ((wrap64 ((wrap64 ((wrap64 ((wrap64 (rd s0_0 (ji14))) * 131)) + (wrap64 ((wrap64 (rd s0_0 (Int.tmod (wrap64 ((wrap64 ((wrap64 ((wrap64 (s0_1 + 1)) - 1)) * 7)) + 3)) (s0_0.length : Int)))) * 1117)))) + (wrap64 ((wrap64 ((wrap64 (s0_1 + 1)) - 1)) * 29)))) + (wrap64 ((wrap64 (Int.tdiv (wrap64 ((wrap64 (s0_1 + 1)) - 1)) (s0_0.length : Int))) * 53)))) 64))) a1, (wrap64 (s0_1 + 1))))) else (none)) else (none)) else (none)) else (none)) = some (r1, r2) := by first | (rw [hji14] at H; exact H) | (simp only [hji14] at H ⊢; exact H)
 by_cases c15 : 0 ≤ (ji14)
 {
 rw [if_pos c15] at H
 have c15b0 : decide (0 ≤ (ji14)) = true := decide_eq_true c15
 clear c15
 by_cases c16 : (ji14) < (s0_0.length : Int)
 {
 rw [if_pos c16] at H
 have c16b0 : decide ((ji14) < (s0_0.length : Int)) = true := decide_eq_true c16
 clear c16
 obtain ⟨ji17, hji17⟩ : ∃ j_ : Int, (Int.tmod (wrap64 ((wrap64 ((wrap64 ((wrap64 (s0_1 + 1)) - 1)) * 7)) + 3)) (s0_0.length : Int)) = j_ := ⟨_, rfl⟩
 replace H : (if 0 ≤ (ji17) then (if (ji17) < (s0_0.length : Int) then (if a1 = 0 then (none) else (some (Int.tmod (Go.bits .xor .i64 (wrap64 ((wrap64 ((wrap64 ((wrap64 ((wrap64 (rd s0_0 (ji14))) * 131)) + (wrap64 ((wrap64 (rd s0_0 (ji17))) * 1117)))) + (wrap64 ((wrap64 ((wrap64 (s0_1 + 1)) - 1)) * 29)))) + (wrap64 ((wrap64 (Int.tdiv (wrap64 ((wrap64 (s0_1 + 1)) - 1)) (s0_0.length : Int))) * 53)))) (wrap64 (Int.tdiv (wrap64 ((wrap64 ((wrap64 ((wrap64 ((wrap64 (rd s0_0 (ji14))) * 131)) + (wrap64 ((wrap64 (rd s0_0 (ji17))) * 1117)))) + (wrap64 ((wrap64 ((wrap64 (s0_1 + 1)) - 1)) * 29)))) + (wrap64 ((wrap64 (Int.tdiv (wrap64 ((wrap64 (s0_1 + 1)) - 1)) (s0_0.length : Int))) * 53)))) 64))) a1, (wrap64 (s0_1 + 1))))) else (none)) else (none)) = some (r1, r2) := by first | (rw [hji17] at H; exact H) | (simp only [hji17] at H ⊢; exact H)
 by_cases c18 : 0 ≤ (ji17)
 {
 rw [if_pos c18] at H
 have c18b0 : decide (0 ≤ (ji17)) = true := decide_eq_true c18
 clear c18
 by_cases c19 : (ji17) < (s0_0.length : Int)
 {
 rw [if_pos c19] at H
 have c19b0 : decide ((ji17) < (s0_0.length : Int)) = true := decide_eq_true c19
 clear c19
 by_cases c20 : a1 = 0
 {
 rw [if_pos c20] at H
 exact absurd H (by simp)
 }
 {
 rw [if_neg c20] at H
 have c20b0 : (a1 == 0) = false := beq_eq_false_iff_ne.mpr c20
 have c20b1 : (a1 != 0) = true := bne_iff_ne.mpr c20
 simp only [Option.some.injEq, Prod.mk.injEq] at H
 obtain ⟨rfl, rfl⟩ := H
 obtain ⟨ASz21_0, cSz21_0, HGz21, hgz21, HSz21_0⟩ := HI0.out
 have hcz21_0 := cellS63_0 HGz21
 have hcz21_1 := cellS63_1 HGz21
 have hfz21_1 := blk_frozen HGz21 1
 clear HGz21 hgz21
 have p231 : 0 ≤ ((ji14) : Int) := of_decide_eq_true zcj_2
 have q231 : (ji14) < (s0_0.length : Int) := of_decide_eq_true zcj_2
 obtain ⟨ad231, e231, hx231_0⟩ := Kd.at_int HSz21_0 (ji14) p231 q231
 cases e231
 replace hx231_0 := pw_cell_below HB.out hx231_0
 replace p231 := eq_true p231
 replace q231 := eq_true q231
 have p232 : 0 ≤ ((ji17) : Int) := of_decide_eq_true zcj_2
 have q232 : (ji17) < (s0_0.length : Int) := of_decide_eq_true zcj_2
 obtain ⟨ad232, e232, hx232_0⟩ := Kd.at_int HSz21_0 (ji17) p232 q232
 obtain rfl : ad231 = ad232 := (by injection e232)
 replace hx232_0 := pw_cell_below HB.out hx232_0
 replace p232 := eq_true p232
 replace q232 := eq_true q232
 go_wp2
 repeat (go_quiet (fail); try go_wp2)
 go_ret
 exact ⟨by first | rfl | (simp [errW_none, errW_some] <;> rfl) | (simp only [← hji14, ← hji17]; first | rfl | (simp [errW_none, errW_some] <;> rfl)) | (simp [*, errW_none, errW_some] <;> rfl), zcj_25, zcj_26, zcj_17⟩
 }
 }
 {
 rw [if_neg c19] at H
 exact absurd H (by simp)
 }
 }
 {
 rw [if_neg c18] at H
 exact absurd H (by simp)
 }
 }
 {
 rw [if_neg c16] at H
 exact absurd H (by simp)
 }
 }
 {
 rw [if_neg c15] at H
 exact absurd H (by simp)
 }
 }
 }
 }
 )
 )
end Go.Proofs.YtnkfbappnpnaoaaDoor.Q
namespace Go.Proofs.YtnkfbappnpnaoaaDoor.Q
open Go.RowKit Go.Proofs.YtnkfbappnpnaoaaDoorW.PrintWords Go.Proofs.YtnkfbappnpnaoaaDoorW.PrintLast Go.Proofs.YtnkfbappnpnaoaaDoorW.PrintMore
attribute [local go_sem] max2_int min2_int max_two min_two max_three min_three max_four min_four   -- for this text's walks alone
set_option linter.unusedVariables false
set_option linter.unusedSimpArgs false
def spec_l20Rd_odd.f (k : Nat) (s0_0 : List Int) (s0_1 : Int) (a1 : Int) : Option (Bool × Int) := if a1 > 0 then ((spec_l20Rd_pick.f k s0_0 s0_1 a1).bind fun bt233 => (some ((bt233.1 == (wrap64 (a1 - 1))), bt233.2))) else (some (false, s0_1))
set_option maxHeartbeats 8000000 in
set_option maxRecDepth 100000 in
theorem spec_l20Rd_odd.calls (k : Nat) (g : Nat) (s0_0 : List Int) (s0_1 : Int) (a1 : Int) (r1 : Bool) (r2 : Int) (w0 w : World) (hI : IsS63 w0 w g s0_0 s0_1) (hB : Below w0.heap.size w0 w) (h : spec_l20Rd_odd.f k s0_0 s0_1 a1 = some (r1, r2)) :
    Calls Tryd.prog 39 #[.pointer (some ⟨g, 0, none⟩), .int .i64 a1] w fun e w' => e = .returned (.bool r1) ∧ IsS63 w0 w' g s0_0 r2 ∧ Below w0.heap.size w0 w' ∧ KeepBut w w' g none := by
 have HI0 := Aside0.mk hI
 have HK := Aside0.mk (KeepBut.refl w g none)
 have HL := Aside0.mk hB.size
 clear hI
 have HW0 := Aside0.mk hB.size
 have HB := Aside0.mk hB
 clear hB
 have H : (if a1 > 0 then ((spec_l20Rd_pick.f k s0_0 s0_1 a1).bind fun bt233 => (some ((bt233.1 == (wrap64 (a1 - 1))), bt233.2))) else (some (false, s0_1))) = some (r1, r2) := h
 clear h
 by_cases c3 : a1 > 0
 {
 rw [if_pos c3] at H
 have c3b0 : decide (0 < a1) = true := decide_eq_true c3
 clear c3
 replace H := Option.bind_eq_some_iff.mp H
 obtain ⟨⟨t233, t234⟩, A40, H⟩ := H
 try dsimp only at H
 have A4 := Aside0.mk A40
 clear A40
 simp only [Option.some.injEq, Prod.mk.injEq] at H
 obtain ⟨rfl, rfl⟩ := H
 go_enter Tryd.func39, Tryd.ntmps39
 go_wp2_with (first | (go_at_call 34; (with_reducible refine (spec_l20Rd_pick.calls k g s0_0 s0_1 a1 t233 t234 w0 _ ?side1 ?side2 A4.out).mono ?_); (case side1 => exact zcj_25); (case side2 => exact zcj_26); rintro e w5 ⟨rfl, hi, hb, hk⟩; have n0_ := Aside0.mk (KeepBut.trans zcj_17 hk (.inl rfl)); have n1_ := Aside0.mk (hb); have n2_ := Aside0.mk (hi); clear HK; clear HB; clear HI0; have HK := n0_; have HB := n1_; have HI0 := n2_; clear n0_ n1_ n2_; (try clear hb); (try clear hb2); (try clear hk); (try clear hi)))
 go_ret
 exact ⟨zcj_13, zcj_25, zcj_26, zcj_17⟩
 }
 {
 rw [if_neg c3] at H
 have c3b0 : decide (0 < a1) = false := decide_eq_false c3
 clear c3
 simp only [Option.some.injEq, Prod.mk.injEq] at H
 obtain ⟨rfl, rfl⟩ := H
 go_enter Tryd.func39, Tryd.ntmps39
 go_wp2
 go_ret
 exact ⟨zcj_13, zcj_25, zcj_26, zcj_17⟩
 }
end Go.Proofs.YtnkfbappnpnaoaaDoor.Q
namespace Go.Proofs.YtnkfbappnpnaoaaDoor.Q
open Go.RowKit Go.Proofs.YtnkfbappnpnaoaaDoorW.PrintWords Go.Proofs.YtnkfbappnpnaoaaDoorW.PrintLast Go.Proofs.YtnkfbappnpnaoaaDoorW.PrintMore
attribute [local go_sem] max2_int min2_int max_two min_two max_three min_three max_four min_four   -- for this text's walks alone
set_option linter.unusedVariables false
set_option linter.unusedSimpArgs false
def Tot {α : Type} (f : Nat → Option α) (P : α → Prop) : Prop := ∃ v, Ev f v ∧ P v
theorem Tot.pure {α : Type} {P : α → Prop} {v : α} (h : P v) : Tot (fun _ => some v) P := ⟨v, Ev.const v, h⟩
theorem Tot.bind {α β : Type} {f : Nat → Option α} {g : Nat → α → Option β} {Q : α → Prop} {P : β → Prop} (h : Tot f Q) (h2 : ∀ a, Q a → Tot (fun k => g k a) P) : Tot (fun k => (f k).bind (g k)) P := by
  obtain ⟨v, hv, hq⟩ := h
  obtain ⟨u, hu, hp⟩ := h2 v hq
  exact ⟨u, Ev.bind hv hu, hp⟩
theorem Tot.ite {α : Type} {c : Prop} [Decidable c] {f g : Nat → Option α} {P : α → Prop} (h1 : c → Tot f P) (h2 : ¬ c → Tot g P) : Tot (fun k => if c then f k else g k) P := by
  by_cases h : c
  · simp only [if_pos h]
    exact h1 h
  · simp only [if_neg h]
    exact h2 h
theorem Tot.yes {α : Type} {c : Prop} [Decidable c] {f g : Nat → Option α} {P : α → Prop} (h : c) (h1 : Tot f P) : Tot (fun k => if c then f k else g k) P := Tot.ite (fun _ => h1) (fun h2 => absurd h h2)
theorem Tot.no {α : Type} {c : Prop} [Decidable c] {f g : Nat → Option α} {P : α → Prop} (h : ¬ c) (h1 : Tot g P) : Tot (fun k => if c then f k else g k) P := Tot.ite (fun h2 => absurd h2 h) (fun _ => h1)
theorem Tot.mono {α : Type} {f : Nat → Option α} {P Q : α → Prop} (h : Tot f P) (hm : ∀ a, P a → Q a) : Tot f Q := by
  obtain ⟨v, hv, hp⟩ := h
  exact ⟨v, hv, hm v hp⟩
theorem Tot.unf {α : Type} {f : Nat → Option α} {P : α → Prop} (h : Tot (fun k => f (k + 1)) P) : Tot f P := by
  obtain ⟨v, hv, hp⟩ := h
  exact ⟨v, Ev.succ (fun _ => rfl) hv, hp⟩
theorem Tot.ev {α : Type} {f : Nat → Option α} {v : α} {P : α → Prop} (h : Ev f v) (hp : P v) : Tot f P := ⟨v, h, hp⟩
theorem Tot.eq {α : Type} {f : Nat → Option α} {v : α} (h : Tot f (fun a => a = v)) : Ev f v := by
  obtain ⟨u, hu, rfl⟩ := h
  exact hu
theorem ofInt_i64 (a : Nat) (ha : a < 18446744073709551616) : (BitVec.ofInt 64 (a : Int)).toNat = a := by
  rw [BitVec.ofInt_natCast, BitVec.toNat_ofNat]; exact Nat.mod_eq_of_lt (by omega)
theorem wrap_i64 (n : Int) (h0 : -9223372036854775808 ≤ n) (h1 : n ≤ 9223372036854775807) : IntKind.i64.wrap n = n := by
  simp [IntKind.wrap, IntKind.bits, IntKind.signed]
  omega
theorem i64_xor (a b : Int) (h1 : 0 ≤ a) (h2 : a < 4611686018427387904) (h3 : 0 ≤ b) (h4 : b < 4611686018427387904) : bits .xor .i64 a b = ((a.toNat ^^^ b.toNat : Nat) : Int) := by
  obtain ⟨A, rfl⟩ := Int.eq_ofNat_of_zero_le h1
  obtain ⟨B, rfl⟩ := Int.eq_ofNat_of_zero_le h3
  have hx : A ^^^ B < 2 ^ 62 := Nat.xor_lt_two_pow (by omega) (by omega)
  show IntKind.i64.wrap ((BitVec.ofInt 64 (A : Int) ^^^ BitVec.ofInt 64 (B : Int)).toNat : Int) = _
  rw [BitVec.toNat_xor, ofInt_i64 A (by omega), ofInt_i64 B (by omega), wrap_i64 _ (by omega) (by omega)]
  simp
theorem tdivn {a b : Int} (h0 : 0 ≤ a) (hb : 0 < b) : Int.tdiv a b = a / b := Int.tdiv_eq_ediv_of_nonneg h0
theorem tmodn {a b : Int} (h0 : 0 ≤ a) (hb : 0 < b) : Int.tmod a b = a % b := Int.tmod_eq_emod_of_nonneg h0
theorem shl_one : ∀ n : Fin 16, shl .i64 1 (n.val : Int) = ((2 ^ n.val : Nat) : Int) := by decide +kernel
theorem rd_mem {l : List Int} {i : Int} (h0 : 0 ≤ i) (h1 : i < (l.length : Int)) : rd l i ∈ l := by
  unfold rd
  have : i.toNat < l.length := by omega
  rw [List.getD_eq_getElem?_getD, List.getElem?_eq_getElem this]
  exact List.getElem_mem this
def Bytes (l : List Int) : Prop := l.length ≤ 2000 ∧ ∀ x ∈ l, 0 ≤ x ∧ x ≤ 255
def Pk (n p : Int) (r : Int × Int) : Prop := 0 ≤ r.1 ∧ (1 ≤ n → r.1 < n) ∧ (n ≤ 0 → r.1 = 0) ∧ r.2 = p + 1
theorem pick_tot {l : List Int} (hl : Bytes l) {p n : Int} (h0 : 0 ≤ p) (h1 : p ≤ 1000000000) (hn : n ≤ 4611686018427387904) : Tot (fun k => spec_l20Rd_pick.f k l p n) (Pk n p) := by
  have hw : wrap64 (p + 1) = p + 1 := w64 _ (by omega) (by omega)
  have hw2 : wrap64 (p + 1 - 1) = p := by rw [w64 _ (by omega) (by omega)]; omega
  unfold spec_l20Rd_pick.f
  simp only [hw]
  refine Tot.ite (fun h => Tot.unf ?_) (fun h => Tot.unf ?_)
  · simp only [spec_l20Rd_pick.j0, if_true]
    exact Tot.pure ⟨Int.le_refl _, fun _ => by omega, fun _ => rfl, rfl⟩
  · simp only [spec_l20Rd_pick.j0]
    refine Tot.ite (fun _ => Tot.pure ⟨Int.le_refl _, fun _ => by omega, fun _ => rfl, rfl⟩) (fun hE => ?_)
    simp only [hw2]
    have hlen : 0 < l.length := by
      rcases Nat.eq_zero_or_pos l.length with h | h
      · exact absurd (by simp [h]) hE
      · exact h
    have hL := hl.1
    refine Tot.ite (fun h2 => ?_) (fun h2 => ?_)
    · have hm := hl.2 _ (rd_mem h0 h2)
      refine Tot.yes h0 (Tot.no (by omega) (Tot.pure ?_))
      rw [w64 _ (by omega) (by omega), tmodn hm.1 (by omega)]
      exact ⟨Int.emod_nonneg _ (by omega), fun _ => Int.emod_lt_of_pos _ (by omega), fun _ => by omega, rfl⟩
    · have hpos : (0 : Int) < (l.length : Int) := by omega
      have m1 := tmodn h0 hpos
      have h7 : wrap64 (wrap64 (p * 7) + 3) = p * 7 + 3 := by rw [w64 (p * 7) (by omega) (by omega), w64 _ (by omega) (by omega)]
      have m2 := tmodn (a := p * 7 + 3) (b := l.length) (by omega) hpos
      have a1 := Int.emod_nonneg p (show (l.length : Int) ≠ 0 by omega)
      have a2 := Int.emod_lt_of_pos p hpos
      have b1 := Int.emod_nonneg (p * 7 + 3) (show (l.length : Int) ≠ 0 by omega)
      have b2 := Int.emod_lt_of_pos (p * 7 + 3) hpos
      have ha := hl.2 _ (rd_mem a1 a2)
      have hb := hl.2 _ (rd_mem b1 b2)
      rw [h7, m1, m2]
      refine Tot.no (by omega) (Tot.yes a1 (Tot.yes a2 (Tot.yes b1 (Tot.yes b2 (Tot.no (by omega) (Tot.pure ?_))))))
      have hd : 0 ≤ p / (l.length : Int) ∧ p / (l.length : Int) ≤ p := ⟨Int.ediv_nonneg h0 (by omega), Int.ediv_le_self _ h0⟩
      rw [tdivn h0 hpos]
      generalize rd l (p % (l.length : Int)) = A at ha
      generalize rd l ((p * 7 + 3) % (l.length : Int)) = B at hb
      generalize p / (l.length : Int) = D at hd
      clear a1 a2 b1 b2 m1 m2 h7 hw2 hw hE h2
      have e : wrap64 (wrap64 (wrap64 (wrap64 (wrap64 A * 131) + wrap64 (wrap64 B * 1117)) + wrap64 (p * 29)) + wrap64 (wrap64 D * 53)) = A * 131 + B * 1117 + p * 29 + D * 53 := by
        rw [w64 A (by omega) (by omega), w64 B (by omega) (by omega), w64 D (by omega) (by omega), w64 (A * 131) (by omega) (by omega), w64 (B * 1117) (by omega) (by omega), w64 (p * 29) (by omega) (by omega), w64 (D * 53) (by omega) (by omega), w64 (A * 131 + B * 1117) (by omega) (by omega), w64 (A * 131 + B * 1117 + p * 29) (by omega) (by omega), w64 _ (by omega) (by omega)]
      rw [e]
      have hX : 0 ≤ A * 131 + B * 1117 + p * 29 + D * 53 ∧ A * 131 + B * 1117 + p * 29 + D * 53 < 1000000000000 := by omega
      generalize A * 131 + B * 1117 + p * 29 + D * 53 = X at hX
      rw [tdivn hX.1 (by omega), w64 (X / 64) (by omega) (by omega), i64_xor _ _ hX.1 (by omega) (by omega) (by omega), tmodn (by omega) (by omega)]
      exact ⟨Int.emod_nonneg _ (by omega), fun _ => Int.emod_lt_of_pos _ (by omega), fun _ => by omega, rfl⟩
theorem odd_tot {l : List Int} (hl : Bytes l) {p n : Int} (h0 : 0 ≤ p) (h1 : p ≤ 1000000000) (hn : n ≤ 4611686018427387904) : Tot (fun k => spec_l20Rd_odd.f k l p n) (fun r => p ≤ r.2 ∧ r.2 ≤ p + 1 ∧ (n ≤ 0 → r = (false, p))) := by
  unfold spec_l20Rd_odd.f
  refine Tot.ite (fun h => Tot.bind (pick_tot hl h0 h1 hn) (fun a ha => Tot.pure ?_)) (fun h => Tot.pure ⟨Int.le_refl _, by omega, fun _ => rfl⟩)
  obtain ⟨_, _, _, h⟩ := ha
  exact ⟨by show p ≤ a.2; omega, by show a.2 ≤ p + 1; omega, fun _ => by omega⟩
theorem open_tot {l : List Int} (hl : ∀ x ∈ l, 0 ≤ x ∧ x ≤ 255) : ∃ b, spec_l20Open.f l = some (b, 0) ∧ Bytes b := by
  unfold spec_l20Open.f
  by_cases h : (l.length : Int) > 2000
  · rw [if_pos h, if_pos (by omega)]
    exact ⟨_, rfl, by rw [List.length_take]; omega, fun x hx => hl x (List.mem_of_mem_take hx)⟩
  · rw [if_neg h]
    exact ⟨_, rfl, by omega, hl⟩
end Go.Proofs.YtnkfbappnpnaoaaDoor.Q
namespace Go.Proofs.YtnkfbappnpnaoaaDoor.Q
open Go.RowKit Go.Proofs.YtnkfbappnpnaoaaDoorW.PrintWords Go.Proofs.YtnkfbappnpnaoaaDoorW.PrintLast Go.Proofs.YtnkfbappnpnaoaaDoorW.PrintMore
attribute [local go_sem] max2_int min2_int max_two min_two max_three min_three max_four min_four   -- for this text's walks alone
set_option linter.unusedVariables false
set_option linter.unusedSimpArgs false
def spec_CrowdOk.f (a0 : Int) (a1 : Int) : Option (Bool) := (spec_l1In.f a0 1 6).bind fun t235 => (if t235 = true then (if 0 ≤ a0 then ((spec_l1In.f a1 0 (wrap64 ((shl .i64 1 a0) - 1))).bind fun t236 => (some t236)) else (none)) else (some false))
set_option maxHeartbeats 8000000 in
set_option maxRecDepth 100000 in
theorem spec_CrowdOk.calls (a0 : Int) (a1 : Int) (r : Bool) (w : World) (h : spec_CrowdOk.f a0 a1 = some r) :
    Calls Tryd.prog 77 #[.int .i64 a0, .int .i64 a1] w fun e w' => e = .returned (.bool r) ∧ Drawn0 w w' := by
 have H : ((spec_l1In.f a0 1 6).bind fun t235 => (if t235 = true then (if 0 ≤ a0 then ((spec_l1In.f a1 0 (wrap64 ((shl .i64 1 a0) - 1))).bind fun t236 => (some t236)) else (none)) else (some false))) = some r := h
 clear h
 replace H := Option.bind_eq_some_iff.mp H
 obtain ⟨t235, A30, H⟩ := H
 try dsimp only at H
 have A3 := Aside0.mk A30
 clear A30
 by_cases c4 : t235 = true
 {
 subst c4
 rw [if_pos rfl] at H
 by_cases c5 : 0 ≤ a0
 {
 rw [if_pos c5] at H
 have c5b0 := eq_true c5
 have c5b1 : decide (0 ≤ a0) = true := decide_eq_true c5
 clear c5
 obtain ⟨ji6, hji6⟩ : ∃ j_ : Int, (shl .i64 1 a0) = j_ := ⟨_, rfl⟩
 replace H : ((spec_l1In.f a1 0 (wrap64 ((ji6) - 1))).bind fun t236 => (some t236)) = some r := by first | (rw [hji6] at H; exact H) | (simp only [hji6] at H ⊢; exact H)
 (try rw [hji6] at A3)
 have hji6_ : (IntKind.i64.wrap (1 * 2 ^ min a0.toNat 64)) = ji6 := hji6
 have hji6z : a0 ≤ 64 → (IntKind.i64.wrap (1 * 2 ^ a0.toNat)) = ji6 := shl_small hji6
 have hji6u : (IntKind.i64.wrap (2 ^ min a0.toNat 64)) = ji6 := by have h_ := hji6_; rw [Int.one_mul] at h_; exact h_
 have hji6v : a0 ≤ 64 → (IntKind.i64.wrap (2 ^ a0.toNat)) = ji6 := fun hle_ => by have h_ := hji6z hle_; rw [Int.one_mul] at h_; exact h_
 have hji6y : (wrap64 (1 * 2 ^ min a0.toNat 64)) = ji6 := (i64_w _).symm.trans hji6_
 have hji6x : a0 ≤ 64 → (wrap64 (1 * 2 ^ a0.toNat)) = ji6 := fun h_ => (i64_w _).symm.trans (hji6z h_)
 replace H := Option.bind_eq_some_iff.mp H
 obtain ⟨t236, A70, H⟩ := H
 try dsimp only at H
 have A7 := Aside0.mk A70
 clear A70
 obtain rfl := Option.some.inj H
 go_enter Tryd.func77, Tryd.ntmps77
 go_wp2_with (first | ((with_reducible refine gate_callee (f := 30) rfl ?_); refine goesL_ (some 6) rfl rfl Tryd.func30 (by kernel_rfl) rfl #[.int .i64 a0, .int .i64 1, .int .i64 6] rfl zcj_3 ?_; (with_reducible refine (spec_l1In.calls a0 1 6 true _ A3.out).mono ?_); rintro e w' ⟨rfl, ⟨nd, rfl⟩⟩; refine ⟨_, rfl, ?_⟩) | (go_at_call 30; (with_reducible refine (spec_l1In.calls a1 0 (wrap64 ((ji6) - 1)) t236 _ A7.out).mono ?_); rintro e w' ⟨rfl, ⟨nd, rfl⟩⟩))
 go_ret
 exact ⟨by first | rfl | (simp; done) | (simp only [← hji6] <;> (first | rfl | simp)) | (simp [*]; done), zcj_21⟩
 }
 {
 rw [if_neg c5] at H
 exact absurd H (by simp)
 }
 }
 {
 replace c4 := Bool.eq_false_iff.mpr c4
 subst c4
 rw [if_neg (show ¬ (false = true) by decide)] at H
 obtain rfl := Option.some.inj H
 go_enter Tryd.func77, Tryd.ntmps77
 go_wp2_with (first | ((with_reducible refine gate_callee (f := 30) rfl ?_); refine goesL_ (some 6) rfl rfl Tryd.func30 (by kernel_rfl) rfl #[.int .i64 a0, .int .i64 1, .int .i64 6] rfl zcj_3 ?_; (with_reducible refine (spec_l1In.calls a0 1 6 false _ A3.out).mono ?_); rintro e w' ⟨rfl, ⟨nd, rfl⟩⟩; refine ⟨_, rfl, ?_⟩))
 go_ret
 exact ⟨zcj_4, zcj_21⟩
 }
end Go.Proofs.YtnkfbappnpnaoaaDoor.Q
namespace Go.Proofs.YtnkfbappnpnaoaaDoor.Q
open Go.RowKit Go.Proofs.YtnkfbappnpnaoaaDoorW.PrintWords Go.Proofs.YtnkfbappnpnaoaaDoorW.PrintLast Go.Proofs.YtnkfbappnpnaoaaDoorW.PrintMore
attribute [local go_sem] max2_int min2_int max_two min_two max_three min_three max_four min_four   -- for this text's walks alone
set_option linter.unusedVariables false
set_option linter.unusedSimpArgs false
def spec_HouseOk.l0 : Nat → Int → Int → List Int → Option (Bool)
  | 0, _, _, _ => none
  | k + 1, x3, x238000, x238001 => if x3 < (x238001.length : Int) then (if 0 ≤ x3 then ((spec_CrowdOk.f x238000 (rd x238001 x3)).bind fun t239 => (if t239 = true then (if (rd x238001 x3) = 0 then (some false) else (spec_HouseOk.l0 k (wrap64 (x3 + 1)) x238000 x238001)) else (some false))) else (none)) else ((spec_l1In.f x238000 1 6).bind fun t241 => (if t241 = true then (some (decide ((x238001.length : Int) ≤ 4))) else (some false)))
def spec_HouseOk.f (k : Nat) (a0_0 : Int) (l0_1 : List Int) : Option (Bool) := spec_HouseOk.l0 k 0 a0_0 l0_1
set_option maxHeartbeats 8000000 in
set_option maxRecDepth 100000 in
theorem spec_HouseOk.calls (k : Nat) (a0_0 : Int) (A0_1 : Option Addr) (c0_1 : Nat) (l0_1 : List Int) (r : Bool) (w : World) (hr0_1 : Kd.C (Kd.int .i64) w A0_1 l0_1.length l0_1) (hc0_1 : l0_1.length ≤ c0_1) (h : spec_HouseOk.f k a0_0 l0_1 = some r) :
    Calls Tryd.prog 61 #[.agg #[.int .i64 a0_0, .slice A0_1 l0_1.length c0_1]] w fun e w' => e = .returned (.bool r) ∧ Below w.heap.size w w' := by
 have hu47 := Tryd.underlying47
 have HR0_1 := Aside0.mk hr0_1
 have HC0_1 := Aside0.mk hc0_1
 clear hr0_1 hc0_1
 have HB := Aside0.mk (Below.refl w.heap.size w)
 have H : (spec_HouseOk.l0 k 0 a0_0 l0_1) = some r := h
 clear h
 have H' := Aside0.mk H
 clear H
 go_enter Tryd.func61, Tryd.ntmps61
 go_wp2_with (first | ((with_reducible refine gate_dst (N := 1) rfl ?_); (try (refine gate_guard (by rfl) ?_; dsimp only)); refine box_event ?hg (N := 1) ?hd (cs := #[.int .i64 a0_0, .slice A0_1 l0_1.length c0_1]) (t := 47) ?hr ?_; (case hd => rfl); (case hg => rfl); (case hr => exact zcj_12); intro gb237 hg w2 hbox hb; refine zcj_f9 ?_; clear HB; intro HB BK237 GW237 GE237; clear hb hbox hg))
 repeat (go_quiet (first | ((with_reducible refine gate_dst (N := 1) rfl ?_); (try (refine gate_guard (by rfl) ?_; dsimp only)); refine box_event ?hg (N := 1) ?hd (cs := #[.int .i64 a0_0, .slice A0_1 l0_1.length c0_1]) (t := 47) ?hr ?_; (case hd => rfl); (case hg => rfl); (case hr => exact zcj_12); intro gb237 hg w2 hbox hb; refine zcj_f9 ?_; clear HB; intro HB BK237 GW237 GE237; clear hb hbox hg)); try go_wp2_with (first | ((with_reducible refine gate_dst (N := 1) rfl ?_); (try (refine gate_guard (by rfl) ?_; dsimp only)); refine box_event ?hg (N := 1) ?hd (cs := #[.int .i64 a0_0, .slice A0_1 l0_1.length c0_1]) (t := 47) ?hr ?_; (case hd => rfl); (case hg => rfl); (case hr => exact zcj_12); intro gb237 hg w2 hbox hb; refine zcj_f9 ?_; clear HB; intro HB BK237 GW237 GE237; clear hb hbox hg)))
 go_loopg [3] k (fun kq v3 w' => ∃ (x3_1 : Int), v3 = .int .i64 x3_1 ∧ Aside0 (spec_HouseOk.l0 kq x3_1 a0_0 l0_1 = some r) ∧ Aside0 (kq ≤ k) ∧ Aside0 (w'.heap[gb237]? = some (.cells #[.int .i64 a0_0, (.slice A0_1 l0_1.length c0_1)] 47 (0, 0))) ∧ Aside0 (Below w.heap.size w w'))
 case atStart => exact ⟨(0), zcj_4, H', ⟨Nat.le_refl _⟩, ⟨zcj_137⟩, ⟨zcj_68⟩⟩
 case round =>(
 clear H'
 try clear p2
 obtain ⟨x3_1, rfl, HA, HK1, BK237, HB⟩ := hrel
 cases gk with
 | zero => exact absurd HA.out (by simp [spec_HouseOk.l0])
 | succ k1 =>(
 have H := HA.out
 clear HA
 simp only [spec_HouseOk.l0] at H
 by_cases c3 : x3_1 < (l0_1.length : Int)
 {
 rw [if_pos c3] at H
 have c3b0 : decide (x3_1 < (l0_1.length : Int)) = true := decide_eq_true c3
 clear c3
 by_cases c4 : 0 ≤ x3_1
 {
 rw [if_pos c4] at H
 have c4b0 : decide (0 ≤ x3_1) = true := decide_eq_true c4
 clear c4
 replace H := Option.bind_eq_some_iff.mp H
 obtain ⟨t239, A50, H⟩ := H
 try dsimp only at H
 have A5 := Aside0.mk A50
 clear A50
 by_cases c6 : t239 = true
 {
 subst c6
 rw [if_pos rfl] at H
 by_cases c7 : (rd l0_1 x3_1) = 0
 {
 rw [if_pos c7] at H
 have c7b0 : ((rd l0_1 x3_1) == 0) = true := beq_iff_eq.mpr c7
 have c7b1 : ((rd l0_1 x3_1) != 0) = false := bne_eq_false_iff_eq.mpr c7
 clear c7
 obtain rfl := Option.some.inj H
 have hcz8_0 : wr.cell? ⟨gb237, 0, none⟩ = some (.int .i64 a0_0) := (blk_cell BK237.out 0).trans rfl
 have hcz8_1 : wr.cell? ⟨gb237, 1, none⟩ = some (.slice A0_1 l0_1.length c0_1) := (blk_cell BK237.out 1).trans rfl
 have hfz8_0 := blk_frozen BK237.out 0
 have hfz8_1 := blk_frozen BK237.out 1
 have p238 : 0 ≤ (x3_1 : Int) := of_decide_eq_true zcj_2
 have q238 : x3_1 < (l0_1.length : Int) := of_decide_eq_true zcj_2
 obtain ⟨ad238, e238, hx238_0⟩ := Kd.at_int HR0_1.out x3_1 p238 q238
 cases e238
 replace hx238_0 := (HB.out.cell (World.block_lt_of_cell? w _ hx238_0)).trans hx238_0
 replace p238 := eq_true p238
 replace q238 := eq_true q238
 go_wp2_with (first | (go_at_call 77; (with_reducible refine (spec_CrowdOk.calls a0_0 (rd l0_1 x3_1) true _ A5.out).mono ?_); rintro e w' ⟨rfl, ⟨nd, rfl⟩⟩; (try first | exact ⟨rfl, _, World.drewN_drewN _ _ _⟩ | exact ⟨rfl, _, Eq.trans (World.drewN_drewN _ _ _) (congrArg (World.drewN _) (Nat.add_assoc _ _ _))⟩); have p240 : 0 ≤ (x3_1 : Int) := of_decide_eq_true zcj_2; have q240 : x3_1 < (l0_1.length : Int) := of_decide_eq_true zcj_2; obtain ⟨ad240, e240, hx240_0⟩ := Kd.at_int HR0_1.out x3_1 p240 q240; obtain rfl : ad238 = ad240 := (by injection e240); replace hx240_0 := (HB.out.cell (World.block_lt_of_cell? w _ hx240_0)).trans hx240_0; replace p240 := eq_true p240; replace q240 := eq_true q240))
 repeat (go_quiet (first | (go_at_call 77; (with_reducible refine (spec_CrowdOk.calls a0_0 (rd l0_1 x3_1) true _ A5.out).mono ?_); rintro e w' ⟨rfl, ⟨nd, rfl⟩⟩; (try first | exact ⟨rfl, _, World.drewN_drewN _ _ _⟩ | exact ⟨rfl, _, Eq.trans (World.drewN_drewN _ _ _) (congrArg (World.drewN _) (Nat.add_assoc _ _ _))⟩); have p240 : 0 ≤ (x3_1 : Int) := of_decide_eq_true zcj_2; have q240 : x3_1 < (l0_1.length : Int) := of_decide_eq_true zcj_2; obtain ⟨ad240, e240, hx240_0⟩ := Kd.at_int HR0_1.out x3_1 p240 q240; obtain rfl : ad238 = ad240 := (by injection e240); replace hx240_0 := (HB.out.cell (World.block_lt_of_cell? w _ hx240_0)).trans hx240_0; replace p240 := eq_true p240; replace q240 := eq_true q240)); try go_wp2_with (first | (go_at_call 77; (with_reducible refine (spec_CrowdOk.calls a0_0 (rd l0_1 x3_1) true _ A5.out).mono ?_); rintro e w' ⟨rfl, ⟨nd, rfl⟩⟩; (try first | exact ⟨rfl, _, World.drewN_drewN _ _ _⟩ | exact ⟨rfl, _, Eq.trans (World.drewN_drewN _ _ _) (congrArg (World.drewN _) (Nat.add_assoc _ _ _))⟩); have p240 : 0 ≤ (x3_1 : Int) := of_decide_eq_true zcj_2; have q240 : x3_1 < (l0_1.length : Int) := of_decide_eq_true zcj_2; obtain ⟨ad240, e240, hx240_0⟩ := Kd.at_int HR0_1.out x3_1 p240 q240; obtain rfl : ad238 = ad240 := (by injection e240); replace hx240_0 := (HB.out.cell (World.block_lt_of_cell? w _ hx240_0)).trans hx240_0; replace p240 := eq_true p240; replace q240 := eq_true q240)))
 go_ret
 exact ⟨zcj_13, zcj_68⟩
 }
 {
 rw [if_neg c7] at H
 have c7b0 : ((rd l0_1 x3_1) == 0) = false := beq_eq_false_iff_ne.mpr c7
 have c7b1 : ((rd l0_1 x3_1) != 0) = true := bne_iff_ne.mpr c7
 have H' := Aside0.mk H
 clear H
 have hcz9_0 : wr.cell? ⟨gb237, 0, none⟩ = some (.int .i64 a0_0) := (blk_cell BK237.out 0).trans rfl
 have hcz9_1 : wr.cell? ⟨gb237, 1, none⟩ = some (.slice A0_1 l0_1.length c0_1) := (blk_cell BK237.out 1).trans rfl
 have hfz9_0 := blk_frozen BK237.out 0
 have hfz9_1 := blk_frozen BK237.out 1
 have p238 : 0 ≤ (x3_1 : Int) := of_decide_eq_true zcj_2
 have q238 : x3_1 < (l0_1.length : Int) := of_decide_eq_true zcj_2
 obtain ⟨ad238, e238, hx238_0⟩ := Kd.at_int HR0_1.out x3_1 p238 q238
 cases e238
 replace hx238_0 := (HB.out.cell (World.block_lt_of_cell? w _ hx238_0)).trans hx238_0
 replace p238 := eq_true p238
 replace q238 := eq_true q238
 go_wp2_with (first | (go_at_call 77; (with_reducible refine (spec_CrowdOk.calls a0_0 (rd l0_1 x3_1) true _ A5.out).mono ?_); rintro e w' ⟨rfl, ⟨nd, rfl⟩⟩; (try first | exact ⟨rfl, _, World.drewN_drewN _ _ _⟩ | exact ⟨rfl, _, Eq.trans (World.drewN_drewN _ _ _) (congrArg (World.drewN _) (Nat.add_assoc _ _ _))⟩); have p240 : 0 ≤ (x3_1 : Int) := of_decide_eq_true zcj_2; have q240 : x3_1 < (l0_1.length : Int) := of_decide_eq_true zcj_2; obtain ⟨ad240, e240, hx240_0⟩ := Kd.at_int HR0_1.out x3_1 p240 q240; obtain rfl : ad238 = ad240 := (by injection e240); replace hx240_0 := (HB.out.cell (World.block_lt_of_cell? w _ hx240_0)).trans hx240_0; replace p240 := eq_true p240; replace q240 := eq_true q240))
 repeat (go_quiet (first | (go_at_call 77; (with_reducible refine (spec_CrowdOk.calls a0_0 (rd l0_1 x3_1) true _ A5.out).mono ?_); rintro e w' ⟨rfl, ⟨nd, rfl⟩⟩; (try first | exact ⟨rfl, _, World.drewN_drewN _ _ _⟩ | exact ⟨rfl, _, Eq.trans (World.drewN_drewN _ _ _) (congrArg (World.drewN _) (Nat.add_assoc _ _ _))⟩); have p240 : 0 ≤ (x3_1 : Int) := of_decide_eq_true zcj_2; have q240 : x3_1 < (l0_1.length : Int) := of_decide_eq_true zcj_2; obtain ⟨ad240, e240, hx240_0⟩ := Kd.at_int HR0_1.out x3_1 p240 q240; obtain rfl : ad238 = ad240 := (by injection e240); replace hx240_0 := (HB.out.cell (World.block_lt_of_cell? w _ hx240_0)).trans hx240_0; replace p240 := eq_true p240; replace q240 := eq_true q240)); try go_wp2_with (first | (go_at_call 77; (with_reducible refine (spec_CrowdOk.calls a0_0 (rd l0_1 x3_1) true _ A5.out).mono ?_); rintro e w' ⟨rfl, ⟨nd, rfl⟩⟩; (try first | exact ⟨rfl, _, World.drewN_drewN _ _ _⟩ | exact ⟨rfl, _, Eq.trans (World.drewN_drewN _ _ _) (congrArg (World.drewN _) (Nat.add_assoc _ _ _))⟩); have p240 : 0 ≤ (x3_1 : Int) := of_decide_eq_true zcj_2; have q240 : x3_1 < (l0_1.length : Int) := of_decide_eq_true zcj_2; obtain ⟨ad240, e240, hx240_0⟩ := Kd.at_int HR0_1.out x3_1 p240 q240; obtain rfl : ad238 = ad240 := (by injection e240); replace hx240_0 := (HB.out.cell (World.block_lt_of_cell? w _ hx240_0)).trans hx240_0; replace p240 := eq_true p240; replace q240 := eq_true q240)))
 go_roundg k1
 case measure => have := HK1.out; omega
 case rel => exact ⟨(wrap64 (x3_1 + 1)), zcj_4, H', ⟨by have := HK1.out; omega⟩, ⟨zcj_137⟩, ⟨zcj_68⟩⟩
 }
 }
 {
 replace c6 := Bool.eq_false_iff.mpr c6
 subst c6
 rw [if_neg (show ¬ (false = true) by decide)] at H
 obtain rfl := Option.some.inj H
 have hcz10_0 : wr.cell? ⟨gb237, 0, none⟩ = some (.int .i64 a0_0) := (blk_cell BK237.out 0).trans rfl
 have hcz10_1 : wr.cell? ⟨gb237, 1, none⟩ = some (.slice A0_1 l0_1.length c0_1) := (blk_cell BK237.out 1).trans rfl
 have hfz10_0 := blk_frozen BK237.out 0
 have hfz10_1 := blk_frozen BK237.out 1
 have p238 : 0 ≤ (x3_1 : Int) := of_decide_eq_true zcj_2
 have q238 : x3_1 < (l0_1.length : Int) := of_decide_eq_true zcj_2
 obtain ⟨ad238, e238, hx238_0⟩ := Kd.at_int HR0_1.out x3_1 p238 q238
 cases e238
 replace hx238_0 := (HB.out.cell (World.block_lt_of_cell? w _ hx238_0)).trans hx238_0
 replace p238 := eq_true p238
 replace q238 := eq_true q238
 go_wp2_with (first | (go_at_call 77; (with_reducible refine (spec_CrowdOk.calls a0_0 (rd l0_1 x3_1) false _ A5.out).mono ?_); rintro e w' ⟨rfl, ⟨nd, rfl⟩⟩; (try first | exact ⟨rfl, _, World.drewN_drewN _ _ _⟩ | exact ⟨rfl, _, Eq.trans (World.drewN_drewN _ _ _) (congrArg (World.drewN _) (Nat.add_assoc _ _ _))⟩)))
 repeat (go_quiet (first | (go_at_call 77; (with_reducible refine (spec_CrowdOk.calls a0_0 (rd l0_1 x3_1) false _ A5.out).mono ?_); rintro e w' ⟨rfl, ⟨nd, rfl⟩⟩; (try first | exact ⟨rfl, _, World.drewN_drewN _ _ _⟩ | exact ⟨rfl, _, Eq.trans (World.drewN_drewN _ _ _) (congrArg (World.drewN _) (Nat.add_assoc _ _ _))⟩))); try go_wp2_with (first | (go_at_call 77; (with_reducible refine (spec_CrowdOk.calls a0_0 (rd l0_1 x3_1) false _ A5.out).mono ?_); rintro e w' ⟨rfl, ⟨nd, rfl⟩⟩; (try first | exact ⟨rfl, _, World.drewN_drewN _ _ _⟩ | exact ⟨rfl, _, Eq.trans (World.drewN_drewN _ _ _) (congrArg (World.drewN _) (Nat.add_assoc _ _ _))⟩))))
 go_ret
 exact ⟨zcj_13, zcj_68⟩
 }
 }
 {
 rw [if_neg c4] at H
 exact absurd H (by simp)
 }
 }
 {
 rw [if_neg c3] at H
 have c3b0 : decide (x3_1 < (l0_1.length : Int)) = false := decide_eq_false c3
 clear c3
 replace H := Option.bind_eq_some_iff.mp H
 obtain ⟨t241, A110, H⟩ := H
 try dsimp only at H
 have A11 := Aside0.mk A110
 clear A110
 by_cases c12 : t241 = true
 {
 subst c12
 rw [if_pos rfl] at H
 obtain rfl := Option.some.inj H
 have hcz13_0 : wr.cell? ⟨gb237, 0, none⟩ = some (.int .i64 a0_0) := (blk_cell BK237.out 0).trans rfl
 have hcz13_1 : wr.cell? ⟨gb237, 1, none⟩ = some (.slice A0_1 l0_1.length c0_1) := (blk_cell BK237.out 1).trans rfl
 have hfz13_0 := blk_frozen BK237.out 0
 have hfz13_1 := blk_frozen BK237.out 1
 go_wp2_with (first | (go_at_call 30; (with_reducible refine (spec_l1In.calls a0_0 1 6 true _ A11.out).mono ?_); rintro e w' ⟨rfl, ⟨nd, rfl⟩⟩; (try first | exact ⟨rfl, _, World.drewN_drewN _ _ _⟩ | exact ⟨rfl, _, Eq.trans (World.drewN_drewN _ _ _) (congrArg (World.drewN _) (Nat.add_assoc _ _ _))⟩)))
 repeat (go_quiet (first | (go_at_call 30; (with_reducible refine (spec_l1In.calls a0_0 1 6 true _ A11.out).mono ?_); rintro e w' ⟨rfl, ⟨nd, rfl⟩⟩; (try first | exact ⟨rfl, _, World.drewN_drewN _ _ _⟩ | exact ⟨rfl, _, Eq.trans (World.drewN_drewN _ _ _) (congrArg (World.drewN _) (Nat.add_assoc _ _ _))⟩))); try go_wp2_with (first | (go_at_call 30; (with_reducible refine (spec_l1In.calls a0_0 1 6 true _ A11.out).mono ?_); rintro e w' ⟨rfl, ⟨nd, rfl⟩⟩; (try first | exact ⟨rfl, _, World.drewN_drewN _ _ _⟩ | exact ⟨rfl, _, Eq.trans (World.drewN_drewN _ _ _) (congrArg (World.drewN _) (Nat.add_assoc _ _ _))⟩))))
 go_ret
 exact ⟨zcj_13, zcj_68⟩
 }
 {
 replace c12 := Bool.eq_false_iff.mpr c12
 subst c12
 rw [if_neg (show ¬ (false = true) by decide)] at H
 obtain rfl := Option.some.inj H
 have hcz14_0 : wr.cell? ⟨gb237, 0, none⟩ = some (.int .i64 a0_0) := (blk_cell BK237.out 0).trans rfl
 have hcz14_1 : wr.cell? ⟨gb237, 1, none⟩ = some (.slice A0_1 l0_1.length c0_1) := (blk_cell BK237.out 1).trans rfl
 have hfz14_0 := blk_frozen BK237.out 0
 have hfz14_1 := blk_frozen BK237.out 1
 go_wp2_with (first | (go_at_call 30; (with_reducible refine (spec_l1In.calls a0_0 1 6 false _ A11.out).mono ?_); rintro e w' ⟨rfl, ⟨nd, rfl⟩⟩; (try first | exact ⟨rfl, _, World.drewN_drewN _ _ _⟩ | exact ⟨rfl, _, Eq.trans (World.drewN_drewN _ _ _) (congrArg (World.drewN _) (Nat.add_assoc _ _ _))⟩)))
 repeat (go_quiet (first | (go_at_call 30; (with_reducible refine (spec_l1In.calls a0_0 1 6 false _ A11.out).mono ?_); rintro e w' ⟨rfl, ⟨nd, rfl⟩⟩; (try first | exact ⟨rfl, _, World.drewN_drewN _ _ _⟩ | exact ⟨rfl, _, Eq.trans (World.drewN_drewN _ _ _) (congrArg (World.drewN _) (Nat.add_assoc _ _ _))⟩))); try go_wp2_with (first | (go_at_call 30; (with_reducible refine (spec_l1In.calls a0_0 1 6 false _ A11.out).mono ?_); rintro e w' ⟨rfl, ⟨nd, rfl⟩⟩; (try first | exact ⟨rfl, _, World.drewN_drewN _ _ _⟩ | exact ⟨rfl, _, Eq.trans (World.drewN_drewN _ _ _) (congrArg (World.drewN _) (Nat.add_assoc _ _ _))⟩))))
 go_ret
 exact ⟨zcj_13, zcj_68⟩
 }
 }
 )
 )
end Go.Proofs.YtnkfbappnpnaoaaDoor.Q
namespace Go.Proofs.YtnkfbappnpnaoaaDoor.Q
open Go.RowKit Go.Proofs.YtnkfbappnpnaoaaDoorW.PrintWords Go.Proofs.YtnkfbappnpnaoaaDoorW.PrintLast Go.Proofs.YtnkfbappnpnaoaaDoorW.PrintMore
attribute [local go_sem] max2_int min2_int max_two min_two max_three min_three max_four min_four   -- for this text's walks alone
set_option linter.unusedVariables false
set_option linter.unusedSimpArgs false
inductive Tm where
  | atom (a n : Int) : Tm
  | an (l r : Tm) : Tm
  | or (l r : Tm) : Tm
def Tm.enc : Tm → List S77
  | .atom a n => [⟨0, a, n⟩]
  | .an l r => l.enc ++ (r.enc ++ [⟨1, 0, 0⟩])
  | .or l r => l.enc ++ (r.enc ++ [⟨2, 0, 0⟩])
def Tm.isOr : Tm → Bool
  | .or _ _ => true
  | _ => false
def Tm.isAtom : Tm → Bool
  | .atom _ _ => true
  | _ => false
def Tm.All (P : Int → Int → Bool) : Tm → Bool
  | .atom a n => P a n
  | .an l r => l.All P && r.All P
  | .or l r => l.All P && r.All P
def brk (s : ByteArray) : ByteArray := ((⟨#[40]⟩ : ByteArray) ++ s) ++ (⟨#[41]⟩ : ByteArray)
def letter (a : Int) : ByteArray := strOfNums [(wrap64 (65 + a)) % 256]
def Tm.txt : Tm → ByteArray
  | .atom a n => letter a ++ numB n
  | .an l r => ((if l.isOr then brk l.txt else l.txt) ++ (⟨#[38]⟩ : ByteArray)) ++ (if r.isAtom then r.txt else brk r.txt)
  | .or l r => (l.txt ++ (⟨#[124]⟩ : ByteArray)) ++ (if r.isOr then brk r.txt else r.txt)
theorem Tm.enc_pos : ∀ t : Tm, 0 < t.enc.length
  | .atom _ _ => by simp [Tm.enc]
  | .an l r => by simp [Tm.enc]; omega
  | .or l r => by simp [Tm.enc]; omega
def headsF : Nat → Nat → Nat
  | 0, _ => 0
  | k + 1, n => n % 2 + headsF k (n / 2)
def headsN (x : Int) : Int := (headsF 63 x.toNat : Int)
theorem headsF_le : ∀ (k n : Nat), headsF k n ≤ k
  | 0, _ => Nat.le_refl _
  | k + 1, n => by
    have := headsF_le k (n / 2)
    unfold headsF
    omega
theorem headsF_zero : ∀ k : Nat, headsF k 0 = 0
  | 0 => rfl
  | k + 1 => by unfold headsF; simp [headsF_zero k]
theorem headsN_bd (x : Int) : 0 ≤ headsN x ∧ headsN x ≤ 63 := by
  have := headsF_le 63 x.toNat
  unfold headsN
  omega
theorem heads_ev_loop : ∀ (m : Nat) (x v : Int), x.toNat < 2 ^ m → 0 ≤ v → v + x.toNat ≤ 9223372036854775807 → Ev (fun k => spec_l1Heads.l0 k x v) (v + (headsF m x.toNat : Int))
  | 0, x, v, hx, h0, hv => by
    refine Ev.succ (g := fun k => if x > 0 then _ else some v) (fun k => rfl) ?_
    simp only [if_neg (show ¬ x > 0 by simp at hx; omega)]
    exact ⟨0, fun _ _ => by simp [headsF]⟩
  | m + 1, x, v, hx, h0, hv => by
    refine Ev.succ (g := fun k => if x > 0 then spec_l1Heads.l0 k (wrap64 (Int.tdiv x 2)) (wrap64 (v + (Int.tmod x 2))) else some v) (fun k => rfl) ?_
    by_cases h : x > 0
    · simp only [if_pos h]
      rw [tdivn (by omega) (by omega), tmodn (by omega) (by omega), w64 _ (by omega) (by omega), w64 _ (by omega) (by omega)]
      have ih := heads_ev_loop m (x / 2) (v + x % 2) (by rw [Nat.pow_succ] at hx; omega) (by omega) (by omega)
      have e : v + (headsF (m + 1) x.toNat : Int) = v + x % 2 + (headsF m (x / 2).toNat : Int) := by
        have e1 : (x / 2).toNat = x.toNat / 2 := by omega
        rw [e1]
        show v + ((x.toNat % 2 + headsF m (x.toNat / 2) : Nat) : Int) = _
        have e2 : ((x.toNat % 2 : Nat) : Int) = x % 2 := by omega
        rw [Int.natCast_add, e2]
        omega
      rw [e]
      exact ih
    · simp only [if_neg h]
      have e : x.toNat = 0 := by omega
      rw [e, headsF_zero]
      exact ⟨0, fun _ _ => by simp⟩
theorem heads_ev (x : Int) (hx : x ≤ 9223372036854775807) : Ev (fun k => spec_l1Heads.f k x) (headsN x) := by
  have h := heads_ev_loop 63 x 0 (by have : (2 : Nat) ^ 63 = 9223372036854775808 := by decide
                                     omega) (Int.le_refl _) (by omega)
  rw [Int.zero_add] at h
  exact h
def crowdOk (p c : Int) : Bool := decide (1 ≤ p ∧ p ≤ 6 ∧ 0 ≤ c ∧ c < 2 ^ p.toNat)
def houseOk (p : Int) (bs : List Int) : Bool := bs.all (fun b => crowdOk p b && !(b == 0)) && decide (1 ≤ p ∧ p ≤ 6) && decide (bs.length ≤ 4)
theorem crowd_eq (p c : Int) : spec_CrowdOk.f p c = some (crowdOk p c) := by
  unfold spec_CrowdOk.f crowdOk
  rw [l1In_eq, Option.bind_some]
  by_cases h : 1 ≤ p ∧ p ≤ 6
  · simp only [decide_eq_true h, if_true]
    rw [if_pos (by omega), l1In_eq, Option.bind_some]
    have hs := shl_one ⟨p.toNat, by omega⟩
    simp only [show ((p.toNat : Nat) : Int) = p by omega] at hs
    have h64 : (2 : Nat) ^ p.toNat ≤ 2 ^ 6 := Nat.pow_le_pow_right (by decide) (by omega)
    have hc : ((2 ^ p.toNat : Nat) : Int) = 2 ^ p.toNat := by norm_cast
    have hp0 : 0 < (2 : Nat) ^ p.toNat := Nat.pow_pos (by decide)
    rw [hs, w64 _ (by omega) (by omega), ← hc]
    congr 1
    rw [decide_eq_decide]
    omega
  · simp only [decide_eq_false h]
    rw [if_neg Bool.false_ne_true]
    congr 1
    symm
    rw [decide_eq_false_iff_not]
    intro h2
    exact h ⟨h2.1, h2.2.1⟩
theorem house_loop (p : Int) (bs : List Int) (hlen : bs.length < 4294967296) : ∀ (n i : Nat), bs.length - i = n → i ≤ bs.length → Ev (fun k => spec_HouseOk.l0 k (i : Int) p bs) ((bs.drop i).all (fun b => crowdOk p b && !(b == 0)) && decide (1 ≤ p ∧ p ≤ 6) && decide (bs.length ≤ 4))
  | 0, i, hn, hi => by
    have e : i = bs.length := by omega
    subst e
    rw [List.drop_eq_nil_of_le (Nat.le_refl _)]
    refine Ev.succ (g := fun k => if (bs.length : Int) < (bs.length : Int) then _ else ((spec_l1In.f p 1 6).bind fun t241 => (if t241 = true then (some (decide ((bs.length : Int) ≤ 4))) else (some false)))) (fun k => rfl) ?_
    simp only [if_neg (Int.lt_irrefl _), l1In_eq, Option.bind_some]
    by_cases h : 1 ≤ p ∧ p ≤ 6
    · simp only [decide_eq_true h, if_true]
      exact ⟨0, fun _ _ => by simp; omega⟩
    · simp only [decide_eq_false h]
      exact ⟨0, fun _ _ => by simp⟩
  | n + 1, i, hn, hi => by
    have hlt : i < bs.length := by omega
    have hwr : wrap64 ((i : Int) + 1) = ((i + 1 : Nat) : Int) := by rw [w64 _ (by omega) (by omega)]; omega
    have hrd : rd bs (i : Int) = bs[i] := by simp [rd, List.getD_eq_getElem?_getD, hlt]
    have ih := house_loop p bs hlen n (i + 1) (by omega) (by omega)
    refine Ev.succ (g := fun k => if (i : Int) < (bs.length : Int) then (if 0 ≤ (i : Int) then ((spec_CrowdOk.f p (rd bs i)).bind fun t239 => (if t239 = true then (if (rd bs i) = 0 then (some false) else (spec_HouseOk.l0 k (wrap64 ((i : Int) + 1)) p bs)) else (some false))) else (none)) else _) (fun k => rfl) ?_
    simp only [if_pos (show (i : Int) < (bs.length : Int) by omega), if_pos (show 0 ≤ (i : Int) by omega), hrd, hwr, crowd_eq, Option.bind_some]
    rw [List.drop_eq_getElem_cons hlt, List.all_cons]
    by_cases h1 : crowdOk p bs[i] = true
    · simp only [h1, if_true]
      by_cases h2 : bs[i] = 0
      · simp only [if_pos h2]
        exact ⟨0, fun _ _ => by simp [h2]⟩
      · simp only [if_neg h2]
        have : (bs[i] == 0) = false := by simpa using h2
        simpa [this] using ih
    · simp only [if_neg h1]
      have : crowdOk p bs[i] = false := by simpa using h1
      exact ⟨0, fun _ _ => by simp [this]⟩
theorem house_ev (p : Int) (bs : List Int) (hlen : bs.length < 4294967296) : Ev (fun k => spec_HouseOk.f k p bs) (houseOk p bs) := house_loop p bs hlen bs.length 0 rfl (Nat.zero_le _)
end Go.Proofs.YtnkfbappnpnaoaaDoor.Q
namespace Go.Proofs.YtnkfbappnpnaoaaDoor.Q
open Go.RowKit Go.Proofs.YtnkfbappnpnaoaaDoorW.PrintWords Go.Proofs.YtnkfbappnpnaoaaDoorW.PrintLast Go.Proofs.YtnkfbappnpnaoaaDoorW.PrintMore
attribute [local go_sem] max2_int min2_int max_two min_two max_three min_three max_four min_four   -- for this text's walks alone
set_option linter.unusedVariables false
set_option linter.unusedSimpArgs false
theorem eqA77 (d : Nat) (w : World) (x0 y0 : Int) (x1 y1 : Int) (x2 y2 : Int) :
    (Op.equalIn (d + 2) 77 (.agg #[.int .i64 x0, .int .i64 x1, .int .i64 x2]) (.agg #[.int .i64 y0, .int .i64 y1, .int .i64 y2])).run Tryd.prog w = .ok (x0 == y0 && (x1 == y1 && (x2 == y2))) w := by
 refine eqA_of Tryd.underlying77 (by kernel_rfl) ?_
 refine eqf_cons (by rfl) (by go_simp; rfl) (by go_simp; rfl) (by go_simp) ?_
 refine eqf_cons (by rfl) (by go_simp; rfl) (by go_simp; rfl) (by go_simp) ?_
 exact eqf_last (by rfl) (by go_simp; rfl) (by go_simp; rfl) (by go_simp)
end Go.Proofs.YtnkfbappnpnaoaaDoor.Q
