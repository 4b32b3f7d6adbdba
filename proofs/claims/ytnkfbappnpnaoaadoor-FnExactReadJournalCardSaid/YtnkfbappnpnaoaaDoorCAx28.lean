/- A part of this claim's proof: functions of the program as plain functions, with the proof that the code comes to their answers, and facts about them. Condition: none of its own. -/
import Derived.Test.YtnkfbappnpnaoaaDoorCAx1
import Derived.Test.YtnkfbappnpnaoaaDoorCAx4
import Derived.Test.YtnkfbappnpnaoaaDoorCAx5
import Derived.Test.YtnkfbappnpnaoaaDoorCAx15
import Derived.Test.YtnkfbappnpnaoaaDoorCAx22
import Derived.Test.YtnkfbappnpnaoaaDoorCAx26
import Derived.Test.YtnkfbappnpnaoaaDoorCAx19
import Derived.Test.YtnkfbappnpnaoaaDoorCAx14
import Derived.Test.YtnkfbappnpnaoaaDoorCAx27
import Derived.Test.YtnkfbappnpnaoaaDoorCAx21
namespace Go.Proofs.YtnkfbappnpnaoaaDoor.Q
open Go.RowKit Go.Proofs.YtnkfbappnpnaoaaDoorW.PrintWords Go.Proofs.YtnkfbappnpnaoaaDoorW.PrintLast Go.Proofs.YtnkfbappnpnaoaaDoorW.PrintMore
attribute [local go_sem] max2_int min2_int max_two min_two max_three min_three max_four min_four   -- for this text's walks alone
set_option linter.unusedVariables false
set_option linter.unusedSimpArgs false

/-! The plain law: the reference's reading of a deed is the program's. -/
def d5 (d : S30) : D5 := (d.f0, d.f1, d.f2, d.f3, true)
/-- The first deed of a list whose text is s. -/
def findD (s : ByteArray) : List S30 → D5
  | [] => zero5
  | d :: r => if s.toList ≠ [] ∧ dText d.f0 d.f1 d.f2 d.f3 = s then d5 d else findD s r
theorem find_loop (s : ByteArray) (L : List S30) (hL : ∀ d ∈ L, d.f3.size < 4294967281) (hlen : L.length < 4294967281) : ∀ (n i : Nat), L.length - i = n → i ≤ L.length → Ev (fun k => spec_ReadDeed.l0 k s L (i : Int)) (findD s (L.drop i))
  | 0, i, hn, hi => by
    have e : i = L.length := by omega
    subst e
    rw [List.drop_eq_nil_of_le (Nat.le_refl _)]
    refine ⟨1, fun k hk => ?_⟩
    obtain ⟨m, rfl⟩ : ∃ m, k = m + 1 := ⟨k - 1, by omega⟩
    simp only [spec_ReadDeed.l0]
    rw [if_neg (by omega)]
    rfl
  | n + 1, i, hn, hi => by
    have hlt : i < L.length := by omega
    have hwr : wrap64 ((i : Int) + 1) = ((i + 1 : Nat) : Int) := by rw [w64 _ (by omega) (by omega)]; omega
    have ih := find_loop s L hL hlen n (i + 1) (by omega) (by omega)
    have hrd : rd_T30 L (i : Int) = L[i] := by simp [rd_T30, List.getD_eq_getElem?_getD, hlt]
    rw [List.drop_eq_getElem_cons hlt]
    have hd := specDeedText_ev L[i].f0 L[i].f1 L[i].f2 L[i].f3 (hL _ (List.getElem_mem hlt))
    refine Ev.succ (g := fun k => if s.toList = ([] : List UInt8) then (spec_ReadDeed.l0 k s L ((i + 1 : Nat) : Int)) else ((spec_DeedText.f k L[i].f0 L[i].f1 L[i].f2 L[i].f3).bind fun t158 => (if t158.toList = s.toList then (some (d5 L[i])) else (spec_ReadDeed.l0 k s L ((i + 1 : Nat) : Int))))) (fun k => ?_) ?_
    · simp only [spec_ReadDeed.l0, hwr, hrd]
      rw [if_pos (show (i : Int) < (L.length : Int) by omega)]
      by_cases h : s.toList = []
      · rw [if_pos h, if_pos h]
      · rw [if_neg h, if_neg h, if_pos (by omega)]
        rfl
    · unfold findD
      by_cases hs : s.toList = []
      · simp only [if_pos hs]
        rw [if_neg (fun h => h.1 hs)]
        exact ih
      · simp only [if_neg hs]
        refine Ev.bind hd ?_
        by_cases he : dText L[i].f0 L[i].f1 L[i].f2 L[i].f3 = s
        · rw [if_pos ⟨hs, he⟩]
          simp only [if_pos (congrArg ByteArray.toList he)]
          exact Ev.const _
        · rw [if_neg (fun h => he h.2)]
          simp only [if_neg (fun h => he (toList_inj h))]
          exact ih
theorem findD_cases (s : ByteArray) : ∀ L : List S30, findD s L = zero5 ∨ ∃ d ∈ L, findD s L = d5 d ∧ dText d.f0 d.f1 d.f2 d.f3 = s ∧ s.toList ≠ []
  | [] => Or.inl rfl
  | d :: r => by
    unfold findD
    split
    · rename_i h
      exact Or.inr ⟨d, by simp, rfl, h.2, h.1⟩
    · rcases findD_cases s r with h | ⟨e, he, h⟩
      · exact Or.inl h
      · exact Or.inr ⟨e, by simp [he], h⟩
theorem findD_none (s : ByteArray) (hs : s.toList ≠ []) : ∀ L : List S30, findD s L = zero5 → ∀ d ∈ L, dText d.f0 d.f1 d.f2 d.f3 ≠ s
  | [], _, d, hd => by simp at hd
  | x :: r, h, d, hd => by
    unfold findD at h
    split at h
    · exact absurd (congrArg (fun r => r.2.2.2.2) h) (by simp [d5, zero5])
    · rename_i hx
      rcases List.mem_cons.1 hd with rfl | hd
      · exact fun e => hx ⟨hs, e⟩
      · exact findD_none s hs r h d hd
/-- The deeds that the reference tries, by the words. -/
def tryL (ws : List ByteArray) (v1 v2 : Int) : List S30 :=
  [⟨4, 0, 0, ⟨#[]⟩⟩] ++ (if ws.length = 2 then [⟨0, v1, 0, ⟨#[]⟩⟩, ⟨1, 0, 0, ws.getD 1 ByteArray.empty⟩] else []) ++ (if ws.length = 3 then [⟨3, v1, v2, ⟨#[]⟩⟩] else []) ++ (if ws.length = 4 then [⟨2, v1, v2, ws.getD 3 ByteArray.empty⟩] else [])
theorem specReadDeed_ev (s : ByteArray) (hs : s.size < 4294967281) : ∃ v1 v2, Ev (fun k => spec_l1Digits.f k ((wordsOf s).getD 1 ByteArray.empty)) v1 ∧ Ev (fun k => spec_l1Digits.f k ((wordsOf s).getD 2 ByteArray.empty)) v2 ∧ Ev (fun k => spec_ReadDeed.f k s) (findD s (tryL (wordsOf s) v1 v2)) := by
  obtain ⟨v1, h1⟩ := digits_ev ((wordsOf s).getD 1 ByteArray.empty)
  obtain ⟨v2, h2⟩ := digits_ev ((wordsOf s).getD 2 ByteArray.empty)
  refine ⟨v1, v2, h1, h2, ?_⟩
  obtain ⟨hc, hcl⟩ := cut_ev s hs
  have hw := words_size s
  generalize wordsOf s = ws at h1 h2 hc hcl hw
  have hget : ∀ i, (ws.getD i ByteArray.empty).size < 4294967281 := by
    intro i
    rcases getD_mem ws i ByteArray.empty with h | h
    · have := hw _ h; omega
    · rw [h]; decide
  have hmem : ∀ d ∈ tryL ws v1 v2, d.f3.size < 4294967281 := by
    have he := empty_size
    have g1 := hget 1
    have g3 := hget 3
    intro d hd
    unfold tryL at hd
    simp only [List.mem_append] at hd
    rcases hd with ((hd | hd) | hd) | hd
    · simp at hd; subst hd; exact he
    · split at hd
      · simp at hd
        rcases hd with rfl | rfl
        · exact he
        · simpa using g1
      · simp at hd
    · split at hd
      · simp at hd; subst hd; exact he
      · simp at hd
    · split at hd
      · simp at hd; subst hd; simpa using g3
      · simp at hd
  have hlen : (tryL ws v1 v2).length < 4294967281 := by
    unfold tryL
    split <;> split <;> split <;> simp
  have hloop := find_loop s (tryL ws v1 v2) hmem hlen _ 0 rfl (Nat.zero_le _)
  rw [List.drop_zero] at hloop
  obtain ⟨kc, hc⟩ := hc
  obtain ⟨k1, h1⟩ := h1
  obtain ⟨k2, h2⟩ := h2
  obtain ⟨kl, hl⟩ := hloop
  refine ⟨max (max kc k1) (max k2 kl) + 3, fun k hk => ?_⟩
  obtain ⟨m, rfl⟩ : ∃ m, k = m + 3 := ⟨k - 3, by omega⟩
  have C := hc (m + 3) (by omega)
  have A0 := h1 (m + 3) (by omega)
  have A1 := h1 (m + 2) (by omega)
  have A2 := h1 (m + 1) (by omega)
  have B1 := h2 (m + 2) (by omega)
  have B2 := h2 (m + 1) (by omega)
  have L0 := hl m (by omega)
  clear hk hc h1 h2 hl
  dsimp only at C A0 A1 A2 B1 B2 L0
  show spec_ReadDeed.f (m + 3) s = _
  have r1 : rdOf ByteArray.empty ws 1 = ws.getD 1 ByteArray.empty := rfl
  have r2 : rdOf ByteArray.empty ws 2 = ws.getD 2 ByteArray.empty := rfl
  have r3 : rdOf ByteArray.empty ws 3 = ws.getD 3 ByteArray.empty := rfl
  unfold spec_ReadDeed.f
  rw [C, Option.bind_some, Option.bind_some]
  have L0' : spec_ReadDeed.l0 m s (tryL ws v1 v2) 0 = some (findD s (tryL ws v1 v2)) := L0
  by_cases c2 : ws.length = 2
  · have e2 : (ws.length : Int) = 2 := by omega
    have n3 : ¬ (ws.length : Int) = 3 := by omega
    have n4 : ¬ (ws.length : Int) = 4 := by omega
    rw [if_pos e2, if_pos (by omega), r1, A0, Option.bind_some, Option.bind_some, if_pos (by simp)]
    simp only [spec_ReadDeed.j0, spec_ReadDeed.j1, spec_ReadDeed.j2, if_neg n3, if_neg n4]
    refine Eq.trans (congrArg (fun L => spec_ReadDeed.l0 m s L 0) ?_) L0'
    simp [tryL, c2, r1]
  · have e2 : ¬ (ws.length : Int) = 2 := by omega
    rw [if_neg e2]
    by_cases c3 : ws.length = 3
    · have e3 : (ws.length : Int) = 3 := by omega
      have n4 : ¬ (ws.length : Int) = 4 := by omega
      simp only [spec_ReadDeed.j0, spec_ReadDeed.j1, spec_ReadDeed.j2, if_pos e3, if_neg n4, r1, r2, A1, B1, Option.bind_some]
      rw [if_pos (by omega), if_pos (by omega), if_pos (by simp)]
      refine Eq.trans (congrArg (fun L => spec_ReadDeed.l0 m s L 0) ?_) L0'
      simp [tryL, c3]
    · have e3 : ¬ (ws.length : Int) = 3 := by omega
      by_cases c4 : ws.length = 4
      · have e4 : (ws.length : Int) = 4 := by omega
        simp only [spec_ReadDeed.j0, spec_ReadDeed.j1, spec_ReadDeed.j2, if_neg e3, if_pos e4, r1, r2, r3, A2, B2, Option.bind_some]
        rw [if_pos (by omega), if_pos (by omega), if_pos (by omega), if_pos (by simp)]
        refine Eq.trans (congrArg (fun L => spec_ReadDeed.l0 m s L 0) ?_) L0'
        simp [tryL, c4]
      · have e4 : ¬ (ws.length : Int) = 4 := by omega
        simp only [spec_ReadDeed.j0, spec_ReadDeed.j1, spec_ReadDeed.j2, if_neg e3, if_neg e4]
        refine Eq.trans (congrArg (fun L => spec_ReadDeed.l0 m s L 0) ?_) L0'
        simp [tryL, c2, c3, c4]
/-- A deed with a text is among those that the reference tries. -/
theorem tryL_has {k a b : Int} {z s : ByteArray} (h : dText k a b z = s) (hs : s.toList ≠ []) {v1 v2 : Int} (h1 : Ev (fun k => spec_l1Digits.f k ((wordsOf s).getD 1 ByteArray.empty)) v1) (h2 : Ev (fun k => spec_l1Digits.f k ((wordsOf s).getD 2 ByteArray.empty)) v2) : (⟨k, a, b, z⟩ : S30) ∈ tryL (wordsOf s) v1 v2 := by
  obtain ⟨⟨ha0, ha1, hb0, hb1⟩, hc⟩ := dText_cases h hs
  rcases hc with ⟨rfl, rfl, rfl, hc⟩ | ⟨rfl, rfl, rfl, hp, hc⟩ | ⟨rfl, hp, hc⟩ | ⟨rfl, rfl, hc⟩ | ⟨rfl, rfl, rfl, rfl, hc⟩
  · rw [words_body a ha0 ha1 s hc] at h1 ⊢
    have := Ev.uniq h1 (digits_num a ha0 ha1)
    subst this
    simp [tryL]
  · rw [words_rule z hp s hc]
    simp [tryL]
  · rw [words_amend a b ha0 ha1 hb0 hb1 z hp s hc] at h1 h2 ⊢
    have := Ev.uniq h1 (digits_num a ha0 ha1)
    subst this
    have := Ev.uniq h2 (digits_num b hb0 hb1)
    subst this
    simp [tryL]
  · rw [words_drop a b ha0 ha1 hb0 hb1 s hc] at h1 h2 ⊢
    have := Ev.uniq h1 (digits_num a ha0 ha1)
    subst this
    have := Ev.uniq h2 (digits_num b hb0 hb1)
    subst this
    simp [tryL]
  · simp [tryL]
/-- The program and the reference read the same. -/
theorem readDeed_same (s : ByteArray) (hs : s.size < 4294967281) : ∃ R, impl_readDeed.f s = some R ∧ Ev (fun k => spec_ReadDeed.f k s) R ∧ Reads5 s R := by
  obtain ⟨R, hR, hR2⟩ := readDeed_tot s hs
  obtain ⟨v1, v2, h1, h2, h3⟩ := specReadDeed_ev s hs
  refine ⟨R, hR, ?_, hR2⟩
  have : findD s (tryL (wordsOf s) v1 v2) = R := by
    rcases findD_cases s (tryL (wordsOf s) v1 v2) with h | ⟨d, hd, h, ht, hne⟩
    · rcases hR2 with rfl | ⟨ht, hx, hne, _⟩
      · exact h
      · exact absurd hx (findD_none s hne _ h ⟨R.1, R.2.1, R.2.2.1, R.2.2.2.1⟩ (tryL_has hx hne h1 h2))
    · rw [h]
      have hz : d.f3.size < 4294967281 := by
        by_cases hz : d.f3.size < 4294967281
        · exact hz
        · exfalso
          have hh := dText_cases ht hne
          obtain ⟨_, hc⟩ := hh
          have ee := empty_size
          rcases hc with ⟨_, _, e, hc⟩ | ⟨_, _, _, hp, hc⟩ | ⟨_, hp, hc⟩ | ⟨_, e, hc⟩ | ⟨_, _, _, e, hc⟩
          · rw [e] at hz; exact hz ee
          · rw [← hc, app_size] at hs; omega
          · rw [← hc, app_size] at hs; omega
          · rw [e] at hz; exact hz ee
          · rw [e] at hz; exact hz ee
      have := readDeed_hit d.f0 d.f1 d.f2 d.f3 s hs ht hne hz
      rw [hR] at this
      exact (Option.some.inj this).symm
  rw [← this]
  exact h3
end Go.Proofs.YtnkfbappnpnaoaaDoor.Q
