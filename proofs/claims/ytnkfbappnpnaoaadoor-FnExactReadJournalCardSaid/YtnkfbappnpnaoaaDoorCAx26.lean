/- A part of this claim's proof: functions of the program as plain functions, with the proof that the code comes to their answers, and facts about them. Condition: none of its own. -/
import Derived.Test.YtnkfbappnpnaoaaDoorCAx1
import Derived.Test.YtnkfbappnpnaoaaDoorCAx7
import Derived.Test.YtnkfbappnpnaoaaDoorCAx5
import Derived.Test.YtnkfbappnpnaoaaDoorCAx15
import Derived.Test.YtnkfbappnpnaoaaDoorCAx22
import Derived.Test.YtnkfbappnpnaoaaDoorCAx19
import Derived.Test.YtnkfbappnpnaoaaDoorCAx25
import Derived.Test.YtnkfbappnpnaoaaDoorCAx16
namespace Go.Proofs.YtnkfbappnpnaoaaDoor.Q
open Go.RowKit Go.Proofs.YtnkfbappnpnaoaaDoorW.PrintWords Go.Proofs.YtnkfbappnpnaoaaDoorW.PrintLast Go.Proofs.YtnkfbappnpnaoaaDoorW.PrintMore
attribute [local go_sem] max2_int min2_int max_two min_two max_three min_three max_four min_four   -- for this text's walks alone
set_option linter.unusedVariables false
set_option linter.unusedSimpArgs false

/-! The plain law: the program reads the deeds that the reference reads. -/
abbrev D5 := Int × Int × Int × ByteArray × Bool
def zero5 : D5 := (0, 0, 0, ⟨#[]⟩, false)
theorem deedNone_eq : deedNone = some zero5 := rfl
/-- What a reading of a text must be: the deed whose text it is, or none. -/
def Reads5 (s : ByteArray) (R : D5) : Prop := R = zero5 ∨ (R.2.2.2.2 = true ∧ dText R.1 R.2.1 R.2.2.1 R.2.2.2.1 = s ∧ s.toList ≠ [] ∧ R.2.2.2.1.size ≤ s.size)
theorem readNumber_tot (x : ByteArray) (h : x.size ≤ 281474976710656) : ∃ p, impl_readNumber.f x = some p := by
  unfold impl_readNumber.f
  rw [if_pos h]
  exact ⟨_, rfl⟩
theorem numLoop_tot : ∀ (xs : List ByteArray) (i : Nat) (a b : Int), (∀ x ∈ xs, x.size ≤ 281474976710656) → ∃ r, numLoop xs i a b = some r
  | [], _, a, b, _ => ⟨_, rfl⟩
  | x :: xs, i, a, b, h => by
    obtain ⟨p, hp⟩ := readNumber_tot x (h x (by simp))
    unfold numLoop
    rw [hp, Option.bind_some]
    split
    · split
      · exact numLoop_tot xs _ _ _ (fun y hy => h y (by simp [hy]))
      · exact numLoop_tot xs _ _ _ (fun y hy => h y (by simp [hy]))
    · exact ⟨_, rfl⟩
theorem deedFin_tot (s : ByteArray) (k a b : Int) (z : ByteArray) (hne : s.toList ≠ []) (hs : s.size < 4294967281) (hz : z.size ≤ s.size) : ∃ R, deedFin s k a b z = some R ∧ Reads5 s R := by
  unfold deedFin
  rw [deedTextM_eq k a b z (by omega), Option.bind_some]
  split
  · rename_i h
    exact ⟨_, rfl, Or.inr ⟨rfl, toList_inj h, hne, hz⟩⟩
  · exact ⟨_, rfl, Or.inl rfl⟩
theorem deedRest_tot (s : ByteArray) (nums : List ByteArray) (k : Int) (z : ByteArray) (hne : s.toList ≠ []) (hs : s.size < 4294967281) (hz : z.size ≤ s.size) (hn : ∀ x ∈ nums, x.size ≤ s.size) : ∃ R, deedRest s nums k z = some R ∧ Reads5 s R := by
  obtain ⟨r, hr⟩ := numLoop_tot nums 0 0 0 (fun x hx => by have := hn x hx; omega)
  unfold deedRest
  rw [hr, Option.bind_some]
  cases r with
  | none => exact ⟨_, rfl, Or.inl rfl⟩
  | some p =>
    obtain ⟨a, b⟩ := p
    exact deedFin_tot s k a b z hne hs hz
theorem getD_mem {α : Type} (l : List α) (i : Nat) (d : α) : l.getD i d ∈ l ∨ l.getD i d = d := by
  rw [List.getD_eq_getElem?_getD]
  cases h : l[i]? with
  | none => exact Or.inr rfl
  | some x => exact Or.inl (by simpa using List.mem_of_getElem? h)
theorem readDeed_tot (s : ByteArray) (hs : s.size < 4294967281) : ∃ R, impl_readDeed.f s = some R ∧ Reads5 s R := by
  unfold impl_readDeed.f
  rw [if_pos hs]
  by_cases hne : s.toList = []
  · have : wordsOf s = [bs []] := words_join [[]] (by simp) (by simp) s hne
    rw [this]
    exact ⟨zero5, by simp [deedOf, kindIdx, bs_toList, deedNone_eq], Or.inl rfl⟩
  have hw := words_size s
  generalize wordsOf s = ws at hw
  unfold deedOf
  have hsz : ∀ x ∈ ws.drop 1, x.size ≤ s.size := fun x hx => hw x (List.mem_of_mem_drop hx)
  have hz0 : (⟨#[]⟩ : ByteArray).size ≤ s.size := Nat.zero_le _
  split
  · exact ⟨_, rfl, Or.inl rfl⟩
  split
  · split
    · split
      · exact deedRest_tot s _ _ _ hne hs hz0 hsz
      · refine deedRest_tot s _ _ _ hne hs ?_ (fun x hx => hsz x ((List.dropLast_sublist _).subset hx))
        rcases getD_mem ws (ws.length - 1) ByteArray.empty with h | h
        · exact hw _ h
        · rw [h]; exact Nat.zero_le _
    · exact deedRest_tot s _ _ _ hne hs hz0 hsz
  · exact ⟨_, rfl, Or.inl rfl⟩
theorem readNumber_num (a : Int) (h0 : 0 ≤ a) (h1 : a ≤ 99) : impl_readNumber.f (numB a) = some (a, true) := by
  have h : ∀ a : Fin 100, (match Lib.atoiAll (num2 a.val) with | .ok v => v == (a.val : Int) | _ => false) = true := by decide +kernel
  have h2 := h ⟨a.toNat, by omega⟩
  have e : ((a.toNat : Nat) : Int) = a := by omega
  have h3 : Lib.atoiAll (num2 a.toNat) = .ok a := by
    simp only [e] at h2
    cases h4 : Lib.atoiAll (num2 a.toNat) <;> simp [h4] at h2
    rw [h2]
  have h5 : Lib.itoa a = num2 a.toNat := by
    unfold Lib.itoa
    rw [if_neg (by omega), ← decDigits_num2 _ (by omega)]
    try congr 1
  unfold impl_readNumber.f
  have hsz := numB_size a h0 h1
  rw [if_pos (by omega)]
  have h6 : atoiNum (numB a) = (a, true) := by
    unfold atoiNum
    show (match Lib.atoiAll (num2 a.toNat) with | .ok v => (v, true) | _ => _) = _
    rw [h3]
  rw [h6, h5]
  simp [h0, numB, bs_data]
  omega
theorem kind_lits : kindIdx (bs [98, 111, 100, 121]) = 0 ∧ kindIdx (bs [114, 117, 108, 101]) = 1 ∧ kindIdx (bs [97, 109, 101, 110, 100]) = 2 ∧ kindIdx (bs [100, 114, 111, 112]) = 3 ∧ kindIdx (bs [98, 97, 99, 107]) = 4 := by
  simp [kindIdx, bs_toList]
theorem numB_toList (a : Int) : (numB a).toList = num2 a.toNat := bs_toList _
theorem nosp (a : Int) (h0 : 0 ≤ a) (h1 : a ≤ 99) : (32 : UInt8) ∉ num2 a.toNat := num2_nosp ⟨a.toNat, by omega⟩
theorem nosp_z {z : ByteArray} (h : plainB z = true) : (32 : UInt8) ∉ z.toList ∧ z.toList ≠ [] := by
  unfold plainB at h
  simp at h
  refine ⟨fun hm => ?_, h.1⟩
  have := h.2 _ hm
  simp [isGap] at this
theorem lit_toList (l : List UInt8) : (⟨l.toArray⟩ : ByteArray).toList = l := bs_toList l
/-- The words of the text of a deed. -/
theorem words_body (a : Int) (h0 : 0 ≤ a) (h1 : a ≤ 99) (s : ByteArray) (hs : (⟨#[98, 111, 100, 121, 32]⟩ : ByteArray) ++ numB a = s) : wordsOf s = [bs [98, 111, 100, 121], numB a] := by
  subst hs
  exact words_join [[98, 111, 100, 121], num2 a.toNat] (by simp) (by
    intro w hw
    simp at hw
    rcases hw with rfl | rfl
    · decide
    · exact nosp a h0 h1) _ (by rw [app_toList, numB_toList]; rw [show (⟨#[98, 111, 100, 121, 32]⟩ : ByteArray) = bs [98, 111, 100, 121, 32] from rfl, bs_toList]; rfl)
theorem words_rule (z : ByteArray) (hz : plainB z = true) (s : ByteArray) (hs : (⟨#[114, 117, 108, 101, 32]⟩ : ByteArray) ++ z = s) : wordsOf s = [bs [114, 117, 108, 101], z] := by
  subst hs
  rw [words_join [[114, 117, 108, 101], z.toList] (by simp) (by
    intro w hw
    simp at hw
    rcases hw with rfl | rfl
    · decide
    · exact (nosp_z hz).1) _ (by rw [app_toList]; rw [show (⟨#[114, 117, 108, 101, 32]⟩ : ByteArray) = bs [114, 117, 108, 101, 32] from rfl, bs_toList]; rfl)]
  simp [bs_of]
theorem words_amend (a b : Int) (h0 : 0 ≤ a) (h1 : a ≤ 99) (h2 : 0 ≤ b) (h3 : b ≤ 99) (z : ByteArray) (hz : plainB z = true) (s : ByteArray) (hs : ((((⟨#[97, 109, 101, 110, 100, 32]⟩ : ByteArray) ++ numB a) ++ (⟨#[32]⟩ : ByteArray)) ++ numB b) ++ (⟨#[32]⟩ : ByteArray) ++ z = s) : wordsOf s = [bs [97, 109, 101, 110, 100], numB a, numB b, z] := by
  subst hs
  rw [words_join [[97, 109, 101, 110, 100], num2 a.toNat, num2 b.toNat, z.toList] (by simp) (by
    intro w hw
    simp at hw
    rcases hw with rfl | rfl | rfl | rfl
    · decide
    · exact nosp a h0 h1
    · exact nosp b h2 h3
    · exact (nosp_z hz).1) _ (by simp only [app_toList, numB_toList]; rw [show (⟨#[97, 109, 101, 110, 100, 32]⟩ : ByteArray) = bs [97, 109, 101, 110, 100, 32] from rfl, show (⟨#[32]⟩ : ByteArray) = bs [32] from rfl, bs_toList, bs_toList]; simp [joinL])]
  simp [bs_of, numB]
theorem words_drop (a b : Int) (h0 : 0 ≤ a) (h1 : a ≤ 99) (h2 : 0 ≤ b) (h3 : b ≤ 99) (s : ByteArray) (hs : (((⟨#[100, 114, 111, 112, 32]⟩ : ByteArray) ++ numB a) ++ (⟨#[32]⟩ : ByteArray)) ++ numB b = s) : wordsOf s = [bs [100, 114, 111, 112], numB a, numB b] := by
  subst hs
  rw [words_join [[100, 114, 111, 112], num2 a.toNat, num2 b.toNat] (by simp) (by
    intro w hw
    simp at hw
    rcases hw with rfl | rfl | rfl
    · decide
    · exact nosp a h0 h1
    · exact nosp b h2 h3) _ (by simp only [app_toList, numB_toList]; rw [show (⟨#[100, 114, 111, 112, 32]⟩ : ByteArray) = bs [100, 114, 111, 112, 32] from rfl, show (⟨#[32]⟩ : ByteArray) = bs [32] from rfl, bs_toList, bs_toList]; simp [joinL])]
  simp [numB]
theorem words_back (s : ByteArray) (hs : (⟨#[98, 97, 99, 107]⟩ : ByteArray) = s) : wordsOf s = [bs [98, 97, 99, 107]] := by
  subst hs
  exact words_join [[98, 97, 99, 107]] (by simp) (by simp) _ (bs_toList [98, 97, 99, 107])
/-- The five ways in which a text is the text of a deed. -/
theorem dText_cases {k a b : Int} {z s : ByteArray} (h : dText k a b z = s) (hs : s.toList ≠ []) : (0 ≤ a ∧ a ≤ 99 ∧ 0 ≤ b ∧ b ≤ 99) ∧
    ((k = 0 ∧ b = 0 ∧ z = ⟨#[]⟩ ∧ (⟨#[98, 111, 100, 121, 32]⟩ : ByteArray) ++ numB a = s) ∨ (k = 1 ∧ a = 0 ∧ b = 0 ∧ plainB z = true ∧ (⟨#[114, 117, 108, 101, 32]⟩ : ByteArray) ++ z = s) ∨
     (k = 2 ∧ plainB z = true ∧ ((((⟨#[97, 109, 101, 110, 100, 32]⟩ : ByteArray) ++ numB a) ++ (⟨#[32]⟩ : ByteArray)) ++ numB b) ++ (⟨#[32]⟩ : ByteArray) ++ z = s) ∨
     (k = 3 ∧ z = ⟨#[]⟩ ∧ (((⟨#[100, 114, 111, 112, 32]⟩ : ByteArray) ++ numB a) ++ (⟨#[32]⟩ : ByteArray)) ++ numB b = s) ∨ (k = 4 ∧ a = 0 ∧ b = 0 ∧ z = ⟨#[]⟩ ∧ (⟨#[98, 97, 99, 107]⟩ : ByteArray) = s)) := by
  have he : (⟨#[]⟩ : ByteArray).toList = [] := bs_toList []
  unfold dText at h
  split at h
  · subst h; exact absurd he hs
  rename_i hr
  refine ⟨Classical.not_not.1 hr, ?_⟩
  split at h
  · rename_i c; exact Or.inl ⟨c.1, c.2.1, str_empty c.2.2, h⟩
  split at h
  · rename_i c; exact Or.inr (Or.inl ⟨c.1, c.2.1, c.2.2.1, c.2.2.2, h⟩)
  split at h
  · rename_i c; exact Or.inr (Or.inr (Or.inl ⟨c.1, c.2, h⟩))
  split at h
  · rename_i c; exact Or.inr (Or.inr (Or.inr (Or.inl ⟨c.1, str_empty c.2, h⟩)))
  split at h
  · rename_i c; exact Or.inr (Or.inr (Or.inr (Or.inr ⟨c.1, c.2.1, c.2.2.1, str_empty c.2.2.2, h⟩)))
  · subst h; exact absurd he hs
theorem deedFin_hit {s : ByteArray} {k a b : Int} {z : ByteArray} (h : dText k a b z = s) (hz : z.size < 4294967281) : deedFin s k a b z = some (k, a, b, z, true) := by
  unfold deedFin
  rw [deedTextM_eq k a b z hz, Option.bind_some, h, if_pos rfl]
theorem empty_size : (⟨#[]⟩ : ByteArray).size < 4294967281 := by decide
/-- The program reads the text of a deed as this deed. -/
theorem readDeed_hit (k a b : Int) (z s : ByteArray) (hsz : s.size < 4294967281) (h : dText k a b z = s) (hs : s.toList ≠ []) (hz : z.size < 4294967281) : impl_readDeed.f s = some (k, a, b, z, true) := by
  obtain ⟨k0, k1, k2, k3, k4⟩ := kind_lits
  unfold impl_readDeed.f
  rw [if_pos hsz]
  obtain ⟨⟨ha0, ha1, hb0, hb1⟩, hc⟩ := dText_cases h hs
  rcases hc with ⟨rfl, rfl, rfl, hc⟩ | ⟨rfl, rfl, rfl, hp, hc⟩ | ⟨rfl, hp, hc⟩ | ⟨rfl, rfl, hc⟩ | ⟨rfl, rfl, rfl, rfl, hc⟩
  · rw [words_body a ha0 ha1 s hc]
    unfold deedOf
    simp only [List.getD_cons_zero, k0]
    simp [countsL, deedRest, numLoop, readNumber_num a ha0 ha1, deedFin_hit h empty_size]
  · rw [words_rule z hp s hc]
    unfold deedOf
    simp only [List.getD_cons_zero, k1]
    simp [countsL, deedRest, numLoop, deedFin_hit h hz, (nosp_z hp).2]
  · rw [words_amend a b ha0 ha1 hb0 hb1 z hp s hc]
    unfold deedOf
    simp only [List.getD_cons_zero, k2]
    simp [countsL, deedRest, numLoop, readNumber_num a ha0 ha1, readNumber_num b hb0 hb1, deedFin_hit h hz, (nosp_z hp).2]
  · rw [words_drop a b ha0 ha1 hb0 hb1 s hc]
    unfold deedOf
    simp only [List.getD_cons_zero, k3]
    simp [countsL, deedRest, numLoop, readNumber_num a ha0 ha1, readNumber_num b hb0 hb1, deedFin_hit h empty_size]
  · rw [words_back s hc]
    unfold deedOf
    simp only [List.getD_cons_zero, k4]
    simp [countsL, deedRest, numLoop, deedFin_hit h empty_size]
theorem dText_inj {k a b k' a' b' : Int} {z z' s : ByteArray} (hsz : s.size < 4294967281) (h : dText k a b z = s) (h' : dText k' a' b' z' = s) (hs : s.toList ≠ []) (hz : z.size < 4294967281) (hz' : z'.size < 4294967281) : k = k' ∧ a = a' ∧ b = b' ∧ z = z' := by
  have e1 := readDeed_hit k a b z s hsz h hs hz
  have e2 := readDeed_hit k' a' b' z' s hsz h' hs hz'
  rw [e1] at e2
  simp at e2
  exact e2
end Go.Proofs.YtnkfbappnpnaoaaDoor.Q
