/- A part of this claim's proof: functions of the program as plain functions, with the proof that the code comes to their answers, and facts about them. Condition: none of its own. -/
import Derived.Test.YtnkfbappnpnaoaaDoorCAx1
import Derived.Test.YtnkfbappnpnaoaaDoorCAx4
import Derived.Test.YtnkfbappnpnaoaaDoorCAx5
import Derived.Test.YtnkfbappnpnaoaaDoorCAx15
import Derived.Test.YtnkfbappnpnaoaaDoorCAx35
import Derived.Test.YtnkfbappnpnaoaaDoorCAx41
import Derived.Test.YtnkfbappnpnaoaaDoorCAx36
import Derived.Test.YtnkfbappnpnaoaaDoorCAx37
import Derived.Test.YtnkfbappnpnaoaaDoorCAx39
import Derived.Test.YtnkfbappnpnaoaaDoorCAx40
import Derived.Test.YtnkfbappnpnaoaaDoorCAx38
namespace Go.Proofs.YtnkfbappnpnaoaaDoor.Q
open Go.RowKit Go.Proofs.YtnkfbappnpnaoaaDoorW.PrintWords Go.Proofs.YtnkfbappnpnaoaaDoorW.PrintLast Go.Proofs.YtnkfbappnpnaoaaDoorW.PrintMore
attribute [local go_sem] max2_int min2_int max_two min_two max_three min_three max_four min_four   -- for this text's walks alone
set_option linter.unusedVariables false
set_option linter.unusedSimpArgs false

/-! The plain law of FnExactReadJournal: rows of deeds are marked, held and the same. -/
theorem rd_at (L : List S30) (i : Nat) (h : i < L.length) : rd_T30 L (i : Int) = L[i] := by simp [rd_T30, List.getD_eq_getElem?_getD, h]
theorem eqDeed_refl (d : S30) : laws_eqDeed.f d.f0 d.f1 d.f2 d.f3 d.f0 d.f1 d.f2 d.f3 = some true := by
  unfold laws_eqDeed.f
  rw [if_pos rfl, if_pos rfl, if_pos rfl, if_pos rfl]
theorem eqDeeds_loop (L : List S30) (hL : L.length ≤ 1048576) : ∀ (n i : Nat), L.length - i = n → i ≤ L.length → Ev (fun k => laws_eqDeedS.l0 k L L (i : Int)) true
  | 0, i, hn, hi => Ev.succ (g := fun _ => some true) (fun k => by rw [laws_eqDeedS.l0, if_neg (by omega)]) (Ev.const _)
  | n + 1, i, hn, hi => by
    refine Ev.succ (g := fun k => laws_eqDeedS.l0 k L L ((i + 1 : Nat) : Int)) (fun k => ?_) (eqDeeds_loop L hL n (i + 1) (by omega) (by omega))
    rw [laws_eqDeedS.l0, if_pos (by omega), if_pos (by omega), if_pos (by omega), eqDeed_refl, Option.bind_some, if_pos rfl, wrC i (by omega)]
theorem eqDeeds_refl (L : List S30) (hL : L.length ≤ 1048576) : Ev (fun k => laws_eqDeedS.f k L L) true := by
  unfold laws_eqDeedS.f
  simp only [if_true]
  exact eqDeeds_loop L hL _ 0 rfl (Nat.zero_le _)
theorem strOf1 (x : Int) : (strOfNums [x]).size = 1 := rfl
theorem markText_loop : ∀ (n : Nat) (x : ByteArray), n + x.size < 4294967281 → ∃ t, Ev (fun k => laws_markText.l0 k (n : Int) x) t := by
  intro n
  induction n using Nat.strongRecOn with
  | _ n ih =>
    intro x hx
    by_cases h0 : n = 0
    · subst h0
      refine ⟨_, Ev.succ (g := fun _ => some ((⟨#[109]⟩ : ByteArray) ++ x)) (fun k => ?_) (Ev.const _)⟩
      rw [laws_markText.l0, if_neg (by decide), if_pos (by omega)]
    · have hd : wrap64 (Int.tdiv (n : Int) 10) = ((n / 10 : Nat) : Int) := by
        have : Int.tdiv (n : Int) 10 = ((n / 10 : Nat) : Int) := rfl
        rw [this]
        exact w64 _ (by omega) (by omega)
      obtain ⟨t, ht⟩ := ih (n / 10) (by omega) (strOfNums [(wrap64 (48 + (Int.tmod (n : Int) 10))) % 256] ++ x) (by rw [app_size, strOf1]; omega)
      refine ⟨t, Ev.succ (fun k => ?_) ht⟩
      rw [laws_markText.l0, if_pos (by omega), Option.bind_some, hd, if_pos (by rw [strOf1]; omega)]
theorem markText_ev (n : Int) (h0 : 0 ≤ n) (h1 : n < 4294967280) : ∃ t, Ev (fun k => laws_markText.f k n) t := by
  unfold laws_markText.f
  by_cases h : n ≤ 0
  · simp only [if_pos h]
    exact ⟨_, Ev.const _⟩
  · simp only [if_neg h]
    obtain ⟨m, rfl⟩ : ∃ m : Nat, n = (m : Int) := ⟨n.toNat, by omega⟩
    exact markText_loop m _ (by have : (⟨#[]⟩ : ByteArray).size = 0 := rfl; omega)
def MarkedAt (d : S30) (j : Nat) : Prop := d.f0 = ((4 * j + 1 : Nat) : Int) ∧ d.f1 = ((4 * j + 2 : Nat) : Int) ∧ d.f2 = ((4 * j + 3 : Nat) : Int) ∧ Ev (fun k => laws_markText.f k ((4 * j + 4 : Nat) : Int)) d.f3
theorem wr5 (i : Nat) (h : i < 1048577) : wrap64 (((4 * i + 1 : Nat) : Int) + 1) = ((4 * i + 2 : Nat) : Int) ∧ wrap64 (((4 * i + 2 : Nat) : Int) + 1) = ((4 * i + 3 : Nat) : Int) ∧ wrap64 (((4 * i + 3 : Nat) : Int) + 1) = ((4 * i + 4 : Nat) : Int) ∧ wrap64 (((4 * i + 4 : Nat) : Int) + 1) = ((4 * (i + 1) + 1 : Nat) : Int) ∧ wrap64 ((i : Int) + 1) = ((i + 1 : Nat) : Int) := by
  refine ⟨(w64 _ ?_ ?_).trans ?_, (w64 _ ?_ ?_).trans ?_, (w64 _ ?_ ?_).trans ?_, (w64 _ ?_ ?_).trans ?_, (w64 _ ?_ ?_).trans ?_⟩ <;> omega
theorem set_rd (L : List S30) (i : Nat) (h : i < L.length) (x : S30) : rd_T30 (L.set i x) (i : Int) = x := by
  rw [rd_at _ _ (by simpa using h)]
  simp
theorem mark_loop (len : Nat) (hlen : len ≤ 1048576) : ∀ (n i : Nat) (L : List S30), L.length = len → len - i = n → i ≤ len → (∀ j (h : j < L.length), j < i → MarkedAt L[j] j) →
    ∃ M : List S30, M.length = len ∧ (∀ j (h : j < M.length), MarkedAt M[j] j) ∧ Ev (fun k => laws_markDeedS.l0 k L ((4 * i + 1 : Nat) : Int) (i : Int)) (((4 * len + 1 : Nat) : Int), M)
  | 0, i, L, hL, hn, hi, hm => by
    have e : i = len := by omega
    subst e
    refine ⟨L, hL, fun j h => hm j h (by omega), Ev.succ (g := fun _ => some (((4 * i + 1 : Nat) : Int), L)) (fun k => ?_) (Ev.const _)⟩
    rw [laws_markDeedS.l0, if_neg (by omega)]
  | n + 1, i, L, hL, hn, hi, hm => by
    have hlt : i < L.length := by omega
    have HL : L.length ≤ 1048577 := by omega
    obtain ⟨e1, e2, e3, e4, e5⟩ := wr5 i (Nat.lt_of_lt_of_le hlt HL)
    obtain ⟨t, ht⟩ := markText_ev ((4 * i + 4 : Nat) : Int) (by omega) (by omega)
    obtain ⟨M, h1, h2, h3⟩ := mark_loop len hlen n (i + 1) (L.set i ⟨((4 * i + 1 : Nat) : Int), ((4 * i + 2 : Nat) : Int), ((4 * i + 3 : Nat) : Int), t⟩) (by simpa using hL) (by omega) (by omega) (by
      intro j h hj
      by_cases e : j = i
      · subst e
        simp
        exact ⟨rfl, rfl, rfl, ht⟩
      · rw [List.getElem_set_ne (fun c => e c.symm)]
        exact hm j (by simpa using h) (by omega))
    refine ⟨M, h1, h2, Ev.succ (g := fun k => (laws_markText.f k ((4 * i + 4 : Nat) : Int)).bind fun t => laws_markDeedS.l0 k (L.set i ⟨((4 * i + 1 : Nat) : Int), ((4 * i + 2 : Nat) : Int), ((4 * i + 3 : Nat) : Int), t⟩) ((4 * (i + 1) + 1 : Nat) : Int) ((i + 1 : Nat) : Int)) (fun k => ?_) (Ev.bind ht h3)⟩
    rw [laws_markDeedS.l0, if_pos (by omega), if_pos (by omega)]
    simp only [Option.bind_some, e1, e2, e3, e4, e5, rd_at L i hlt, set_rd L i hlt, Int.toNat_natCast, List.set_set]
theorem held_loop (M : List S30) (hlen : M.length ≤ 1048576) (hM : ∀ j (h : j < M.length), MarkedAt M[j] j) : ∀ (n i : Nat), M.length - i = n → i ≤ M.length → Ev (fun k => laws_heldDeedS.l0 k M ((4 * i + 1 : Nat) : Int) (i : Int)) ((4 * M.length + 1 : Nat) : Int)
  | 0, i, hn, hi => by
    have e : i = M.length := by omega
    subst e
    exact Ev.succ (g := fun _ => some _) (fun k => by rw [laws_heldDeedS.l0, if_neg (by omega)]) (Ev.const _)
  | n + 1, i, hn, hi => by
    have hlt : i < M.length := by omega
    obtain ⟨m0, m1, m2, m3⟩ := hM i hlt
    have HL : M.length ≤ 1048577 := Nat.le_trans hlen (by decide)
    have c1 : (i : Int) < (M.length : Int) := by omega
    have c2 : (0 : Int) ≤ (i : Int) := by omega
    have ih := held_loop M hlen hM n (i + 1) (by omega) (by omega)
    obtain ⟨e1, e2, e3, e4, e5⟩ := wr5 i (Nat.lt_of_lt_of_le hlt HL)
    refine Ev.succ (g := fun k => (laws_markText.f k ((4 * i + 4 : Nat) : Int)).bind fun t => if M[i].f3.toList = t.toList then laws_heldDeedS.l0 k M ((4 * (i + 1) + 1 : Nat) : Int) ((i + 1 : Nat) : Int) else some (-1)) (fun k => ?_) (Ev.bind m3 ?_)
    · rw [laws_heldDeedS.l0, if_pos c1, if_pos c2]
      simp only [rd_at M i hlt, e1, e2, e3, e4, e5]
      rw [if_pos m0, if_pos m1, if_pos m2]
    · simp only [if_true]
      exact ih
theorem mark_held (L : List S30) (hlen : L.length ≤ 1048576) : ∃ (m : Int) (M : List S30), 0 ≤ m ∧ Ev (fun k => laws_markDeedS.f k L 1) (m, M) ∧ Ev (fun k => laws_heldDeedS.f k M 1) m := by
  obtain ⟨M, h1, h2, h3⟩ := mark_loop L.length hlen L.length 0 L rfl rfl (Nat.zero_le _) (fun j h hj => absurd hj (Nat.not_lt_zero _))
  have h4 := held_loop M (by omega) h2 M.length 0 rfl (Nat.zero_le _)
  rw [h1] at h4
  exact ⟨_, M, by omega, h3, h4⟩
theorem law_FnExactReadJournal (a0 : ByteArray) : Ev (fun k => laws_FnExactReadJournal.f k a0) true := by
  unfold laws_FnExactReadJournal.f
  by_cases hs : (a0.size : Int) > 1048576
  · simp only [if_pos hs]
    exact Ev.const _
  · simp only [if_neg hs]
    obtain ⟨R, h1, h2, h3⟩ := journal_same a0 (by omega)
    refine Ev.bind h2 (Ev.bind h1 (Ev.bind (eqDeeds_refl R.1 (by omega)) ?_))
    obtain ⟨m, M, hm, m1, m2⟩ := mark_held R.1 (by omega)
    have hb : (R.2 != R.2) = false := by simp
    simp only [if_true, hb]
    refine Ev.succ (fun k => by rw [laws_FnExactReadJournal.j0, if_neg Bool.false_ne_true]) (Ev.bind m1 (Ev.bind m2 ?_))
    simp only [if_neg (show ¬ m < 0 by omega), if_true]
    refine Ev.bind h1 (Ev.bind (eqDeeds_refl R.1 (by omega)) ?_)
    simp only [if_true, hb]
    refine Ev.succ (fun k => by rw [laws_FnExactReadJournal.j1, if_neg Bool.false_ne_true]) (Ev.bind m2 ?_)
    simp only [if_neg (show ¬ m < 0 by omega), if_true]
    exact Ev.const _
end Go.Proofs.YtnkfbappnpnaoaaDoor.Q
