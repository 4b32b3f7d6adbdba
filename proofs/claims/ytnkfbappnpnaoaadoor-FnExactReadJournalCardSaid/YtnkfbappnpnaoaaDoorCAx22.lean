/- A part of this claim's proof: functions of the program as plain functions, with the proof that the code comes to their answers, and facts about them. Condition: none of its own. -/
import Derived.Test.YtnkfbappnpnaoaaDoorCAx1
import Derived.Test.YtnkfbappnpnaoaaDoorCAx4
import Derived.Test.YtnkfbappnpnaoaaDoorCAx5
import Derived.Test.YtnkfbappnpnaoaaDoorCAx15
import Derived.Test.YtnkfbappnpnaoaaDoorCAx19
import Derived.Test.YtnkfbappnpnaoaaDoorCAx20
import Derived.Test.YtnkfbappnpnaoaaDoorCAx21
namespace Go.Proofs.YtnkfbappnpnaoaaDoor.Q
open Go.RowKit Go.Proofs.YtnkfbappnpnaoaaDoorW.PrintWords Go.Proofs.YtnkfbappnpnaoaaDoorW.PrintLast Go.Proofs.YtnkfbappnpnaoaaDoorW.PrintMore
attribute [local go_sem] max2_int min2_int max_two min_two max_three min_three max_four min_four   -- for this text's walks alone
set_option linter.unusedVariables false
set_option linter.unusedSimpArgs false

/-! The plain law: words and numbers, as the reference reads them. -/
theorem toList_len (s : ByteArray) : s.toList.length = s.size := by rw [Lib.toList_data]; rfl
theorem ext_toList (s : ByteArray) (a b : Nat) : (s.extract a b).toList = (s.toList.take b).drop a := by
  rw [Lib.toList_data, Lib.toList_data, ByteArray.data_extract, Array.toList_extract]
  simp [List.extract, List.drop_take]
theorem ext_end (s : ByteArray) (a : Nat) : (s.extract a s.size).toList = s.toList.drop a := by
  rw [ext_toList, List.take_of_length_le (by rw [toList_len]; exact Nat.le_refl _)]
theorem bt_u8 (s : ByteArray) (i : Nat) (h : i < s.toList.length) (c : UInt8) : bt s (i : Int) = (c.toNat : Int) ↔ s.toList[i] = c := by
  rw [bt_get s i (by rw [← toList_len]; exact h)]
  constructor
  · intro e; exact UInt8.toNat_inj.1 (by omega)
  · intro e; rw [e]
theorem cut_loop (s : ByteArray) (hs : s.size < 4294967281) : ∀ (n : Nat) (out : List ByteArray) (fr pos : Nat), s.size - pos = n → fr ≤ pos → pos ≤ s.size → out.length ≤ pos → (32 : UInt8) ∉ (s.toList.take pos).drop fr →
    ∃ ws : List ByteArray, ws ≠ [] ∧ Ev (fun k => spec_l1Cut.l0 k s 32 out (fr : Int) (pos : Int)) (out ++ ws) ∧ joinL 32 (ws.map ByteArray.toList) = s.toList.drop fr ∧ (∀ w ∈ ws, (32 : UInt8) ∉ w.toList) ∧ out.length + ws.length ≤ s.size + 1
  | 0, out, fr, pos, hn, hf, hp, ho, hw => by
    have e : pos = s.size := by omega
    subst e
    refine ⟨[s.extract fr s.size], by simp, ⟨1, fun k hk => ?_⟩, ?_, ?_, by simp; omega⟩
    · obtain ⟨m, rfl⟩ : ∃ m, k = m + 1 := ⟨k - 1, by omega⟩
      simp only [spec_l1Cut.l0]
      rw [if_neg (by omega), if_pos (by omega), if_pos (by omega), if_pos (by omega)]
      simp
    · simp [joinL, ext_end]
    · intro w hw2
      simp at hw2
      subst hw2
      rw [ext_end]
      rwa [List.take_of_length_le (by rw [toList_len]; exact Nat.le_refl _)] at hw
  | n + 1, out, fr, pos, hn, hf, hp, ho, hw => by
    have hlt : pos < s.size := by omega
    have hlt2 : pos < s.toList.length := by rw [toList_len]; exact hlt
    have hwr : wrap64 ((pos : Int) + 1) = ((pos + 1 : Nat) : Int) := by rw [w64 _ (by omega) (by omega)]; omega
    have step : ∀ k, spec_l1Cut.l0 (k + 1) s 32 out (fr : Int) (pos : Int) = if s.toList[pos] = 32 then spec_l1Cut.l0 k s 32 (out ++ [s.extract fr pos]) ((pos + 1 : Nat) : Int) ((pos + 1 : Nat) : Int) else spec_l1Cut.l0 k s 32 out (fr : Int) ((pos + 1 : Nat) : Int) := by
      intro k
      have hb := bt_u8 s pos hlt2 32
      have h32 : ((32 : UInt8).toNat : Int) = 32 := rfl
      rw [h32] at hb
      simp only [spec_l1Cut.l0, hwr]
      rw [if_pos (by omega), if_pos (by omega)]
      by_cases h : s.toList[pos] = 32
      · rw [if_pos (hb.2 h), if_pos h, if_pos (by omega), if_pos (by omega), if_pos (by omega), if_pos (by omega)]
        simp
      · rw [if_neg (fun e => h (hb.1 e)), if_neg h]
    have htk : (s.toList.take (pos + 1)) = s.toList.take pos ++ [s.toList[pos]] := by simp
    by_cases h : s.toList[pos] = 32
    · obtain ⟨ws, h1, h2, h3, h4, h5⟩ := cut_loop s hs n (out ++ [s.extract fr pos]) (pos + 1) (pos + 1) (by omega) (Nat.le_refl _) (by omega) (by simp; omega) (by rw [List.drop_eq_nil_of_le (by simp; omega)]; simp)
      refine ⟨s.extract fr pos :: ws, by simp, ?_, ?_, ?_, by simp at h5 ⊢; omega⟩
      · refine Ev.succ step ?_
        simp only [if_pos h]
        simpa using h2
      · cases ws with
        | nil => exact absurd rfl h1
        | cons w ws =>
          rw [List.map_cons, List.map_cons, joinL_cons, ← List.map_cons, h3, ext_toList]
          have : s.toList.drop fr = (s.toList.take pos).drop fr ++ s.toList.drop pos := by
            conv => lhs; rw [← List.take_append_drop pos s.toList]
            rw [List.drop_append_of_le_length (by rw [List.length_take]; omega)]
          rw [this, List.drop_eq_getElem_cons hlt2, h]
      · intro w hw2
        rcases List.mem_cons.1 hw2 with rfl | hw2
        · rw [ext_toList]; exact hw
        · exact h4 w hw2
    · obtain ⟨ws, h1, h2, h3, h4, h5⟩ := cut_loop s hs n out fr (pos + 1) (by omega) (by omega) (by omega) (by omega) (by
        rw [htk, List.drop_append_of_le_length (by rw [List.length_take]; omega)]
        intro hm
        rcases List.mem_append.1 hm with hm | hm
        · exact hw hm
        · simp at hm; exact h hm.symm)
      refine ⟨ws, h1, ?_, h3, h4, h5⟩
      refine Ev.succ step ?_
      simp only [if_neg h]
      exact h2
theorem map_bs (ws : List ByteArray) : (ws.map ByteArray.toList).map bs = ws := by
  rw [List.map_map]
  exact List.map_id'' (fun x => bs_of x) ws
/-- The reference cuts a text into the words into which the program splits it. -/
theorem cut_ev (s : ByteArray) (hs : s.size < 4294967281) : Ev (fun k => spec_l1Cut.f k s 32) (wordsOf s) ∧ (wordsOf s).length ≤ s.size + 1 := by
  obtain ⟨ws, h1, h2, h3, h4, h5⟩ := cut_loop s hs s.size [] 0 0 rfl (Nat.le_refl _) (Nat.zero_le _) (Nat.le_refl _) (by simp)
  have : wordsOf s = ws := by
    unfold wordsOf
    rw [splitB_join (ws.map ByteArray.toList) (by simpa using h1) (by intro w hw; obtain ⟨x, hx, rfl⟩ := List.mem_map.1 hw; exact h4 x hx) s (by rw [h3, List.drop_zero]), map_bs]
  rw [this]
  exact ⟨by simpa [spec_l1Cut.f] using h2, by simpa using h5⟩
theorem words_join (ws : List (List UInt8)) (h : ws ≠ []) (hw : ∀ w ∈ ws, (32 : UInt8) ∉ w) (s : ByteArray) (hs : s.toList = joinL 32 ws) : wordsOf s = ws.map bs := splitB_join ws h hw s hs
theorem splitB_size (sep : ByteArray) : ∀ (k : Nat) (s : ByteArray), ∀ w ∈ Lib.splitB sep 0 k s, w.size ≤ s.size
  | 0, s, w, h => by
    simp [Lib.splitB] at h
    subst h
    exact Nat.le_refl _
  | k + 1, s, w, h => by
    unfold Lib.splitB at h
    split at h
    · simp at h
      subst h
      exact Nat.le_refl _
    · rcases List.mem_cons.1 h with rfl | h
      · rw [ByteArray.size_extract]; omega
      · have := splitB_size sep k _ w h
        rw [ByteArray.size_extract] at this
        omega
theorem words_size (s w : ByteArray) (h : w ∈ wordsOf s) : w.size ≤ s.size := splitB_size _ _ _ _ h
theorem digits_loop (w : ByteArray) (hw : w.size ≤ 6) : ∀ (n : Nat) (i : Nat) (v : Int), w.size - i = n → i ≤ w.size → ∃ r, Ev (fun k => spec_l1Digits.l0 k w v (i : Int)) r
  | 0, i, v, hn, hi => ⟨v, 1, fun k hk => by
      obtain ⟨m, rfl⟩ : ∃ m, k = m + 1 := ⟨k - 1, by omega⟩
      simp only [spec_l1Digits.l0]
      rw [if_neg (by omega)]⟩
  | n + 1, i, v, hn, hi => by
    have hwr : wrap64 ((i : Int) + 1) = ((i + 1 : Nat) : Int) := by rw [w64 _ (by omega) (by omega)]; omega
    obtain ⟨r, hr⟩ := digits_loop w hw n (i + 1) (wrap64 ((wrap64 (10 * v)) + (((bt w i) - 48) % 256))) (by omega) (by omega)
    have step : ∀ k, spec_l1Digits.l0 (k + 1) w v (i : Int) = if bt w i < 48 then some (-1) else if bt w i > 57 then some (-1) else spec_l1Digits.l0 k w (wrap64 ((wrap64 (10 * v)) + (((bt w i) - 48) % 256))) ((i + 1 : Nat) : Int) := by
      intro k
      simp only [spec_l1Digits.l0, hwr]
      rw [if_pos (by omega), if_pos (by omega)]
    by_cases h1 : bt w i < 48
    · exact ⟨-1, Ev.succ step (by simp only [if_pos h1]; exact Ev.const _)⟩
    · by_cases h2 : bt w i > 57
      · exact ⟨-1, Ev.succ step (by simp only [if_neg h1, if_pos h2]; exact Ev.const _)⟩
      · exact ⟨r, Ev.succ step (by simp only [if_neg h1, if_neg h2]; exact hr)⟩
theorem digits_ev (w : ByteArray) : ∃ r, Ev (fun k => spec_l1Digits.f k w) r := by
  have hj : ∀ x : Bool, (x = false → w.size ≤ 6) → ∃ r, Ev (fun k => spec_l1Digits.j0 k w x) r := by
    intro x hx
    cases x with
    | true => exact ⟨-1, Ev.succ (g := fun _ => some (-1)) (fun k => rfl) (Ev.const _)⟩
    | false =>
      obtain ⟨r, hr⟩ := digits_loop w (hx rfl) _ 0 0 rfl (Nat.zero_le _)
      exact ⟨r, Ev.succ (g := fun k => spec_l1Digits.l0 k w 0 0) (fun k => rfl) hr⟩
  unfold spec_l1Digits.f
  simp only [l1In_eq, Option.bind_some]
  by_cases h : (1 : Int) ≤ (w.size : Int) ∧ (w.size : Int) ≤ 6
  · simp only [decide_eq_true h, if_true]
    by_cases h2 : (w.size : Int) > 1
    · simp only [if_pos h2, if_pos (show (0 : Int) < (w.size : Int) by omega)]
      exact hj _ (fun _ => by omega)
    · simp only [if_neg h2]
      exact hj _ (fun _ => by omega)
  · simp only [decide_eq_false h, Bool.false_eq_true, if_false]
    exact hj _ (fun h => by simp at h)
theorem digits_num (a : Int) (h0 : 0 ≤ a) (h1 : a ≤ 99) : Ev (fun k => spec_l1Digits.f k (numB a)) a := by
  have h : ∀ a : Fin 100, spec_l1Digits.f 5 (bs (num2 a.val)) = some (a.val : Int) := by decide +kernel
  have h2 := h ⟨a.toNat, by omega⟩
  have e : ((a.toNat : Nat) : Int) = a := by omega
  simp only [e] at h2
  exact Ev.of_mono (k0 := 5) (fun k r h => spec_l1Digits.mono (numB a) k r h) h2
end Go.Proofs.YtnkfbappnpnaoaaDoor.Q
