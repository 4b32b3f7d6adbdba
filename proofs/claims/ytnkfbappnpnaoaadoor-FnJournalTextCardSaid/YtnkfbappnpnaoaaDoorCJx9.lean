/- A part of this claim's proof: functions of the program as plain functions, with the proof that the code comes to their answers, and facts about them. Condition: none of its own. -/
import Derived.Test.YtnkfbappnpnaoaaDoorCJx1
import Derived.Test.YtnkfbappnpnaoaaDoorCJx7
import Derived.Test.YtnkfbappnpnaoaaDoorCJx8
import Derived.Test.YtnkfbappnpnaoaaDoorCJx5
import Derived.Test.YtnkfbappnpnaoaaDoorCJz
namespace Go.Proofs.YtnkfbappnpnaoaaDoor.Q
open Go.RowKit Go.Proofs.YtnkfbappnpnaoaaDoorW.PrintWords Go.Proofs.YtnkfbappnpnaoaaDoorW.PrintLast Go.Proofs.YtnkfbappnpnaoaaDoorW.PrintMore
attribute [local go_sem] max2_int min2_int max_two min_two max_three min_three max_four min_four   -- for this text's walks alone
set_option linter.unusedVariables false
set_option linter.unusedSimpArgs false
def scan (P : Int → Int → Bool) : List S77 → List Tm → Option (List Tm)
  | [], st => some st
  | m :: r, st =>
    if m.f0 = 0 then (if P m.f1 m.f2 = true then scan P r (.atom m.f1 m.f2 :: st) else none)
    else if m.f0 = 1 ∧ m.f1 = 0 ∧ m.f2 = 0 then (match st with | b :: a :: s => scan P r (.an a b :: s) | _ => none)
    else if m.f0 = 2 ∧ m.f1 = 0 ∧ m.f2 = 0 then (match st with | b :: a :: s => scan P r (.or a b :: s) | _ => none)
    else none
def encs_ : List Tm → List S77
  | [] => []
  | t :: s => encs_ s ++ t.enc
theorem scan_sound (P : Int → Int → Bool) : ∀ (t : List S77) (st s : List Tm), scan P t st = some s → (∀ x ∈ st, x.All P = true) → encs_ s = encs_ st ++ t ∧ ∀ x ∈ s, x.All P = true
  | [], st, s, h, ha => by
    simp [scan] at h
    subst h
    exact ⟨by simp, ha⟩
  | ⟨k, a, n⟩ :: r, st, s, h, ha => by
    unfold scan at h
    split at h
    · rename_i h0
      simp only at h0
      subst h0
      split at h
      · rename_i hp
        have ih := scan_sound P r _ s h (by
          intro x hx
          rcases List.mem_cons.1 hx with rfl | hx
          · exact hp
          · exact ha x hx)
        exact ⟨by rw [ih.1]; simp [encs_, Tm.enc], ih.2⟩
      · simp at h
    split at h
    · rename_i h0
      simp only at h0
      obtain ⟨rfl, rfl, rfl⟩ := h0
      match st, h, ha with
      | b :: a :: st, h, ha =>
        have ih := scan_sound P r _ s h (by
          intro x hx
          rcases List.mem_cons.1 hx with rfl | hx
          · simp [Tm.All, ha a (by simp), ha b (by simp)]
          · exact ha x (by simp [hx]))
        exact ⟨by rw [ih.1]; simp [encs_, Tm.enc], ih.2⟩
      | [], h, _ => simp at h
      | [_], h, _ => simp at h
    split at h
    · rename_i h0
      simp only at h0
      obtain ⟨rfl, rfl, rfl⟩ := h0
      match st, h, ha with
      | b :: a :: st, h, ha =>
        have ih := scan_sound P r _ s h (by
          intro x hx
          rcases List.mem_cons.1 hx with rfl | hx
          · simp [Tm.All, ha a (by simp), ha b (by simp)]
          · exact ha x (by simp [hx]))
        exact ⟨by rw [ih.1]; simp [encs_, Tm.enc], ih.2⟩
      | [], h, _ => simp at h
      | [_], h, _ => simp at h
    · simp at h
def atomOk (bs : List Int) (a n : Int) : Bool := decide (0 ≤ a ∧ a < (bs.length : Int) ∧ 1 ≤ n ∧ n ≤ headsN (rd bs a))
def termOk (p : Int) (bs : List Int) (t : List S77) : Bool := match scan (atomOk bs) t [] with
  | some [_] => houseOk p bs && decide (t.length ≤ 9)
  | _ => false
def scan2 (P : Int → Int → Bool) (c : Tm → Tm → Tm) (r : List S77) : List Tm → Option (List Tm)
  | b :: a :: s => scan P r (c a b :: s)
  | _ => none
def termFin (p : Int) (bs : List Int) (t : List S77) : Option (List Tm) → Bool
  | some [_] => houseOk p bs && decide (t.length ≤ 9)
  | _ => false
theorem termOk_fin (p : Int) (bs : List Int) (t : List S77) : termOk p bs t = termFin p bs t (scan (atomOk bs) t []) := by
  unfold termOk termFin
  split <;> simp_all
theorem term_loop (p : Int) (bs : List Int) (t : List S77) (hb : bs.length < 4294967296) (hbs : ∀ b ∈ bs, b ≤ 9223372036854775807) (ht : t.length < 4294967296) : ∀ (n i : Nat) (st : List Tm), t.length - i = n → i ≤ t.length → st.length ≤ i →
    Ev (fun k => spec_TermOk.l0 k t (st.length : Int) (i : Int) p bs) (termFin p bs t (scan (atomOk bs) (t.drop i) st))
  | 0, i, st, hn, hi, hst => by
    have e : i = t.length := by omega
    subst e
    rw [List.drop_eq_nil_of_le (Nat.le_refl _)]
    refine Ev.succ (g := fun k => if (t.length : Int) < (t.length : Int) then _ else ((spec_HouseOk.f k p bs).bind fun t243 => (if t243 = true then (if (st.length : Int) = 1 then (some (decide ((t.length : Int) ≤ 9))) else (some false)) else (some false)))) (fun k => rfl) ?_
    simp only [if_neg (Int.lt_irrefl _)]
    refine Ev.bind (house_ev p bs hb) ?_
    unfold scan termFin
    match st with
    | [] => cases houseOk p bs <;> exact ⟨0, fun _ _ => by simp⟩
    | [x] => cases houseOk p bs <;> exact ⟨0, fun _ _ => by simp; try omega⟩
    | x :: y :: s =>
      have : ¬ (((x :: y :: s).length : Nat) : Int) = 1 := by simp; omega
      cases houseOk p bs <;> exact ⟨0, fun _ _ => by simp; try omega⟩
  | n + 1, i, st, hn, hi, hst => by
    have hlt : i < t.length := by omega
    have hwr : wrap64 ((i : Int) + 1) = ((i + 1 : Nat) : Int) := by rw [w64 _ (by omega) (by omega)]; omega
    have hwp : wrap64 ((st.length : Int) + 1) = ((st.length + 1 : Nat) : Int) := by rw [w64 _ (by omega) (by omega)]; omega
    have hwb : wrap64 ((bs.length : Int) - 1) = (bs.length : Int) - 1 := w64 _ (by omega) (by omega)
    have hrd : rd_T77 t (i : Int) = t[i] := by simp [rd_T77, List.getD_eq_getElem?_getD, hlt]
    have ih := fun st' h => term_loop p bs t hb hbs ht n (i + 1) st' (by omega) (by omega) h
    rw [List.drop_eq_getElem_cons hlt]
    generalize t[i] = m at hrd
    have hj0 : (P : m.f0 = 0) → Ev (fun k => spec_TermOk.j1 k t (st.length : Int) (i : Int) false p bs) false := by
      intro P
      refine Ev.succ (g := fun k => some false) (fun k => ?_) (Ev.const _)
      simp only [spec_TermOk.j1]
      rw [if_neg Bool.false_ne_true, if_pos (by omega), if_pos (by omega), hrd]
      simp [P]
    refine Ev.succ (g := fun k => if (i : Int) < (t.length : Int) then (if 0 ≤ (i : Int) then (if ((rd_T77 t i).f0) = 0 then ((spec_l1In.f ((rd_T77 t i).f1) 0 (wrap64 ((bs.length : Int) - 1))).bind fun t246 => (if t246 = true then (if 0 ≤ ((rd_T77 t i).f1) then (if ((rd_T77 t i).f1) < (bs.length : Int) then ((spec_l1Heads.f k (rd bs ((rd_T77 t i).f1))).bind fun t250 => ((spec_l1In.f ((rd_T77 t i).f2) 1 t250).bind fun t251 => (spec_TermOk.j1 k t (st.length : Int) i t251 p bs))) else (none)) else (none)) else (spec_TermOk.j1 k t (st.length : Int) i false p bs))) else (spec_TermOk.j1 k t (st.length : Int) i false p bs)) else (none)) else _) (fun k => rfl) ?_
    simp only [if_pos (show (i : Int) < (t.length : Int) by omega), if_pos (show 0 ≤ (i : Int) by omega), hrd, hwb, l1In_eq, Option.bind_some]
    unfold scan
    by_cases h0 : m.f0 = 0
    · simp only [if_pos h0]
      by_cases ha : 0 ≤ m.f1 ∧ m.f1 ≤ (bs.length : Int) - 1
      · simp only [decide_eq_true ha, if_true, if_pos ha.1, if_pos (show m.f1 < (bs.length : Int) by omega)]
        refine Ev.bind (heads_ev _ (hbs _ (rd_mem ha.1 (by omega)))) ?_
        by_cases hn2 : 1 ≤ m.f2 ∧ m.f2 ≤ headsN (rd bs m.f1)
        · have hP : atomOk bs m.f1 m.f2 = true := by unfold atomOk; exact decide_eq_true ⟨ha.1, by omega, hn2.1, hn2.2⟩
          rw [if_pos hP]
          simp only [decide_eq_true hn2]
          refine Ev.succ (g := fun k => spec_TermOk.l0 k t (wrap64 ((st.length : Int) + 1)) (wrap64 ((i : Int) + 1)) p bs) (fun k => rfl) ?_
          rw [hwp, hwr]
          exact ih (.atom m.f1 m.f2 :: st) (by simp; omega)
        · have hP : ¬ atomOk bs m.f1 m.f2 = true := by unfold atomOk; rw [decide_eq_true_eq]; exact fun h => hn2 ⟨h.2.2.1, h.2.2.2⟩
          rw [if_neg hP]
          simp only [decide_eq_false hn2]
          exact hj0 h0
      · have hP : ¬ atomOk bs m.f1 m.f2 = true := by unfold atomOk; rw [decide_eq_true_eq]; exact fun h => ha ⟨h.1, by omega⟩
        rw [if_neg hP]
        simp only [decide_eq_false ha, Bool.false_eq_true, if_false]
        exact hj0 h0
    · simp only [if_neg h0]
      refine Ev.succ (g := fun k => (if 0 ≤ (i : Int) then (if (i : Int) < (t.length : Int) then (if (((rd_T77 t i).f0) == 1 && (((rd_T77 t i).f1) == 0 && (((rd_T77 t i).f2) == 0))) = true then (if (st.length : Int) ≥ 2 then (spec_TermOk.l0 k t (wrap64 ((st.length : Int) - 1)) (wrap64 ((i : Int) + 1)) p bs) else (some false)) else (if (((rd_T77 t i).f0) == 2 && (((rd_T77 t i).f1) == 0 && (((rd_T77 t i).f2) == 0))) = true then (if (st.length : Int) ≥ 2 then (spec_TermOk.l0 k t (wrap64 ((st.length : Int) - 1)) (wrap64 ((i : Int) + 1)) p bs) else (some false)) else (some false))) else (none)) else (none))) (fun k => rfl) ?_
      simp only [if_pos (show (i : Int) < (t.length : Int) by omega), if_pos (show 0 ≤ (i : Int) by omega), hrd, hwr]
      have hgo : ∀ c : Tm → Tm → Tm, Ev (fun k => if (st.length : Int) ≥ 2 then (spec_TermOk.l0 k t (wrap64 ((st.length : Int) - 1)) ((i + 1 : Nat) : Int) p bs) else (some false)) (termFin p bs t (scan2 (atomOk bs) c (t.drop (i + 1)) st)) := by
        intro c
        match st with
        | [] => exact ⟨0, fun _ _ => by simp [termFin, scan2]⟩
        | [x] => exact ⟨0, fun _ _ => by simp [termFin, scan2]⟩
        | b :: a :: s =>
          have e : wrap64 ((((b :: a :: s).length : Nat) : Int) - 1) = ((c a b :: s).length : Int) := by
            have hs2 : (b :: a :: s).length = s.length + 2 := by simp
            have hs3 : (c a b :: s).length = s.length + 1 := by simp
            rw [hs2, hs3, w64 _ (by omega) (by rw [hs2] at hst; omega)]
            omega
          simp only [if_pos (show (((b :: a :: s).length : Nat) : Int) ≥ 2 by simp; omega), e]
          exact ih (c a b :: s) (by simp at hst ⊢; omega)
      by_cases h1 : m.f0 = 1 ∧ m.f1 = 0 ∧ m.f2 = 0
      · have e1 : (m.f0 == 1 && (m.f1 == 0 && (m.f2 == 0))) = true := by simp [h1]
        rw [if_pos h1]
        simp only [e1, if_true]
        have h_ := hgo .an
        unfold scan2 at h_
        exact h_
      · have e1 : ¬ (m.f0 == 1 && (m.f1 == 0 && (m.f2 == 0))) = true := by simpa using h1
        rw [if_neg h1]
        simp only [if_neg e1]
        by_cases h2 : m.f0 = 2 ∧ m.f1 = 0 ∧ m.f2 = 0
        · have e2 : (m.f0 == 2 && (m.f1 == 0 && (m.f2 == 0))) = true := by simp [h2]
          rw [if_pos h2]
          simp only [e2, if_true]
          have h_ := hgo .or
          unfold scan2 at h_
          exact h_
        · have e2 : ¬ (m.f0 == 2 && (m.f1 == 0 && (m.f2 == 0))) = true := by simpa using h2
          rw [if_neg h2]
          simp only [if_neg e2]
          exact Ev.const _
theorem term_ev (p : Int) (bs : List Int) (t : List S77) (hb : bs.length < 4294967296) (hbs : ∀ b ∈ bs, b ≤ 9223372036854775807) (ht : t.length < 4294967296) : Ev (fun k => spec_TermOk.f k p bs t) (termOk p bs t) := by
  rw [termOk_fin]
  exact term_loop p bs t hb hbs ht t.length 0 [] rfl (Nat.zero_le _) (Nat.le_refl _)
theorem termOk_tree {p : Int} {bs : List Int} {t : List S77} (h : termOk p bs t = true) : ∃ x : Tm, t = x.enc ∧ x.All (atomOk bs) = true ∧ houseOk p bs = true ∧ t.length ≤ 9 := by
  unfold termOk at h
  split at h
  · rename_i x hx
    have hs := scan_sound _ _ _ _ hx (by simp)
    simp [encs_] at hs
    simp at h
    exact ⟨x, hs.1.symm, hs.2, h.1, h.2⟩
  · simp at h
end Go.Proofs.YtnkfbappnpnaoaaDoor.Q
namespace Go.Proofs.YtnkfbappnpnaoaaDoor.Q
open Go.RowKit Go.Proofs.YtnkfbappnpnaoaaDoorW.PrintWords Go.Proofs.YtnkfbappnpnaoaaDoorW.PrintLast Go.Proofs.YtnkfbappnpnaoaaDoorW.PrintMore
attribute [local go_sem] max2_int min2_int max_two min_two max_three min_three max_four min_four   -- for this text's walks alone
set_option linter.unusedVariables false
set_option linter.unusedSimpArgs false
def spec_l3Starts.l0 : Nat → List (S77) → Int → Int → Option (Int)
  | 0, _, _, _ => none
  | k + 1, x0, x5, x6 => if x5 > 0 then (if 0 ≤ x6 then (if x6 < (x0.length : Int) then (if ((rd_T77 x0 x6).f0) = 0 then (spec_l3Starts.l0 k x0 (wrap64 (x5 - 1)) (wrap64 (x6 - 1))) else (spec_l3Starts.l0 k x0 (wrap64 (x5 + 1)) (wrap64 (x6 - 1)))) else (none)) else (none)) else (some (wrap64 (x6 + 1)))
def spec_l3Starts.f (k : Nat) (l0 : List (S77)) (a1 : Int) : Option (Int) := spec_l3Starts.l0 k l0 1 a1
set_option maxHeartbeats 8000000 in
set_option maxRecDepth 100000 in
theorem spec_l3Starts.calls (k : Nat) (A0 : Option Addr) (c0 : Nat) (l0 : List (S77)) (a1 : Int) (r : Int) (w : World) (hr0 : Kd.C k77 w A0 l0.length l0) (hc0 : l0.length ≤ c0) (h : spec_l3Starts.f k l0 a1 = some r) :
    Calls Tryd.prog 62 #[.slice A0 l0.length c0, .int .i64 a1] w fun e w' => e = .returned (.int .i64 r) ∧ Drawn0 w w' := by
 have HR0 := Aside0.mk hr0
 have HC0 := Aside0.mk hc0
 clear hr0 hc0
 have H : (spec_l3Starts.l0 k l0 1 a1) = some r := h
 clear h
 have H' := Aside0.mk H
 clear H
 go_enter Tryd.func62, Tryd.ntmps62
 go_wp2
 go_loopg [5, 6] k (fun kq v5 v6 w' => ∃ (x5_1 : Int) (x6_1 : Int), v5 = .int .i64 x5_1 ∧ v6 = .int .i64 x6_1 ∧ Aside0 (spec_l3Starts.l0 kq l0 x5_1 x6_1 = some r) ∧ Aside0 (kq ≤ k) ∧ Drawn0 w w')
 case atStart => exact ⟨(1), (a1), zcj_4, zcj_4, H', ⟨Nat.le_refl _⟩, zcj_21⟩
 case round =>(
 clear H'
 try clear p2
 obtain ⟨x5_1, x6_1, rfl, rfl, HA, HK1, ⟨m1, rfl⟩⟩ := hrel
 cases gk with
 | zero => exact absurd HA.out (by simp [spec_l3Starts.l0])
 | succ k1 =>(
 have H := HA.out
 clear HA
 simp only [spec_l3Starts.l0] at H
 by_cases c3 : x5_1 > 0
 {
 rw [if_pos c3] at H
 have c3b0 : decide (0 < x5_1) = true := decide_eq_true c3
 clear c3
 by_cases c4 : 0 ≤ x6_1
 {
 rw [if_pos c4] at H
 have c4b0 : decide (0 ≤ x6_1) = true := decide_eq_true c4
 clear c4
 by_cases c5 : x6_1 < (l0.length : Int)
 {
 rw [if_pos c5] at H
 have c5b0 : decide (x6_1 < (l0.length : Int)) = true := decide_eq_true c5
 clear c5
 by_cases c6 : ((rd_T77 l0 x6_1).f0) = 0
 {
 rw [if_pos c6] at H
 have c6b0 : (((rd_T77 l0 x6_1).f0) == 0) = true := beq_iff_eq.mpr c6
 have c6b1 : (((rd_T77 l0 x6_1).f0) != 0) = false := bne_eq_false_iff_eq.mpr c6
 clear c6
 have H' := Aside0.mk H
 clear H
 have p254 : 0 ≤ (x6_1 : Int) := of_decide_eq_true zcj_2
 have q254 : x6_1 < (l0.length : Int) := of_decide_eq_true zcj_2
 obtain ⟨ad254, e254, hx254_0, hx254_1, hx254_2⟩ := at_T77 HR0.out x6_1 p254 q254
 cases e254
 replace p254 := eq_true p254
 replace q254 := eq_true q254
 go_wp2
 go_roundg k1
 case measure => have := HK1.out; omega
 case rel => exact ⟨(wrap64 (x5_1 - 1)), (wrap64 (x6_1 - 1)), zcj_4, zcj_4, H', ⟨by have := HK1.out; omega⟩, zcj_21⟩
 }
 {
 rw [if_neg c6] at H
 have c6b0 : (((rd_T77 l0 x6_1).f0) == 0) = false := beq_eq_false_iff_ne.mpr c6
 have c6b1 : (((rd_T77 l0 x6_1).f0) != 0) = true := bne_iff_ne.mpr c6
 have H' := Aside0.mk H
 clear H
 have p254 : 0 ≤ (x6_1 : Int) := of_decide_eq_true zcj_2
 have q254 : x6_1 < (l0.length : Int) := of_decide_eq_true zcj_2
 obtain ⟨ad254, e254, hx254_0, hx254_1, hx254_2⟩ := at_T77 HR0.out x6_1 p254 q254
 cases e254
 replace p254 := eq_true p254
 replace q254 := eq_true q254
 go_wp2
 go_roundg k1
 case measure => have := HK1.out; omega
 case rel => exact ⟨(wrap64 (x5_1 + 1)), (wrap64 (x6_1 - 1)), zcj_4, zcj_4, H', ⟨by have := HK1.out; omega⟩, zcj_21⟩
 }
 }
 {
 rw [if_neg c5] at H
 exact absurd H (by simp)
 }
 }
 {
 rw [if_neg c4] at H
 exact absurd H (by simp)
 }
 }
 {
 rw [if_neg c3] at H
 have c3b0 : decide (0 < x5_1) = false := decide_eq_false c3
 clear c3
 obtain rfl := Option.some.inj H
 go_wp2
 go_ret
 exact ⟨zcj_4, zcj_21⟩
 }
 )
 )
end Go.Proofs.YtnkfbappnpnaoaaDoor.Q
namespace Go.Proofs.YtnkfbappnpnaoaaDoor.Q
open Go.RowKit Go.Proofs.YtnkfbappnpnaoaaDoorW.PrintWords Go.Proofs.YtnkfbappnpnaoaaDoorW.PrintLast Go.Proofs.YtnkfbappnpnaoaaDoorW.PrintMore
attribute [local go_sem] max2_int min2_int max_two min_two max_three min_three max_four min_four   -- for this text's walks alone
set_option linter.unusedVariables false
set_option linter.unusedSimpArgs false
theorem rdT_at {l : List S77} {i : Nat} (h : i < l.length) : rd_T77 l (i : Int) = l[i] := by simp [rd_T77, List.getD_eq_getElem?_getD, h]
theorem starts_step (l : List S77) (need : Int) (i : Nat) (R : Int) (hn : 1 ≤ need) (hn2 : need ≤ 4294967296) (hi : i < l.length) (hl : l.length < 4294967296)
    (h : Ev (fun k => spec_l3Starts.l0 k l (if l[i].f0 = 0 then need - 1 else need + 1) ((i : Int) - 1)) R) : Ev (fun k => spec_l3Starts.l0 k l need (i : Int)) R := by
  refine Ev.succ (g := fun k => if need > 0 then (if 0 ≤ (i : Int) then (if (i : Int) < (l.length : Int) then (if ((rd_T77 l i).f0) = 0 then (spec_l3Starts.l0 k l (wrap64 (need - 1)) (wrap64 ((i : Int) - 1))) else (spec_l3Starts.l0 k l (wrap64 (need + 1)) (wrap64 ((i : Int) - 1)))) else (none)) else (none)) else (some (wrap64 ((i : Int) + 1)))) (fun k => rfl) ?_
  simp only [if_pos (show need > 0 by omega), if_pos (show 0 ≤ (i : Int) by omega), if_pos (show (i : Int) < (l.length : Int) by omega), rdT_at hi, w64 (need - 1) (by omega) (by omega), w64 (need + 1) (by omega) (by omega), w64 ((i : Int) - 1) (by omega) (by omega)]
  by_cases h0 : l[i].f0 = 0
  · simp only [if_pos h0] at h ⊢
    exact h
  · simp only [if_neg h0] at h ⊢
    exact h
theorem starts_ev : ∀ (t : Tm) (pre post : List S77) (need : Int) (R : Int), 1 ≤ need → need + (t.enc.length : Int) ≤ 4294967296 → (pre ++ (t.enc ++ post)).length < 4294967296 →
    Ev (fun k => spec_l3Starts.l0 k (pre ++ (t.enc ++ post)) (need - 1) ((pre.length : Int) - 1)) R → Ev (fun k => spec_l3Starts.l0 k (pre ++ (t.enc ++ post)) need ((pre.length : Int) + (t.enc.length : Int) - 1)) R
  | .atom a n, pre, post, need, R, hn, hn2, hl, h => by
    have e : (pre.length : Int) + ((Tm.atom a n).enc.length : Int) - 1 = (pre.length : Int) := by simp [Tm.enc]
    rw [e]
    refine starts_step _ need pre.length R hn (by omega) (by simp [Tm.enc]) hl ?_
    have e2 : (pre ++ ((Tm.atom a n).enc ++ post))[pre.length]'(by simp [Tm.enc]) = ⟨0, a, n⟩ := by simp [Tm.enc]
    rw [e2]
    exact h
  | .an a b, pre, post, need, R, hn, hn2, hl, h => by
    have ha := a.enc_pos
    have hb := b.enc_pos
    have hlen : (Tm.an a b).enc.length = a.enc.length + b.enc.length + 1 := by simp [Tm.enc]; omega
    have e0 : pre ++ ((Tm.an a b).enc ++ post) = pre ++ (a.enc ++ (b.enc ++ (⟨1, 0, 0⟩ :: post))) := by simp [Tm.enc]
    rw [e0] at h hl ⊢
    have e1 : (pre.length : Int) + ((Tm.an a b).enc.length : Int) - 1 = ((pre.length + (a.enc.length + b.enc.length) : Nat) : Int) := by omega
    rw [e1]
    have hi : pre.length + (a.enc.length + b.enc.length) < (pre ++ (a.enc ++ (b.enc ++ (⟨1, 0, 0⟩ :: post)))).length := by simp only [List.length_append, List.length_cons]; omega
    refine starts_step _ need _ R hn (by omega) hi hl ?_
    have e2 : (pre ++ (a.enc ++ (b.enc ++ ((⟨1, 0, 0⟩ : S77) :: post))))[pre.length + (a.enc.length + b.enc.length)]'hi = ⟨1, 0, 0⟩ := by
      rw [List.getElem_append_right (by omega), List.getElem_append_right (by omega), List.getElem_append_right (by omega)]
      simp only [Nat.add_sub_cancel_left, Nat.sub_self, List.getElem_cons_zero]
    rw [e2]
    simp only [show ¬ ((1 : Int) = 0) by decide, if_false]
    have e3 : pre ++ (a.enc ++ (b.enc ++ ((⟨1, 0, 0⟩ : S77) :: post))) = (pre ++ a.enc) ++ (b.enc ++ (⟨1, 0, 0⟩ :: post)) := by simp
    rw [e3] at hl ⊢
    have e4 : ((pre.length + (a.enc.length + b.enc.length) : Nat) : Int) - 1 = (((pre ++ a.enc).length : Nat) : Int) + (b.enc.length : Int) - 1 := by rw [List.length_append]; omega
    rw [e4]
    refine starts_ev b (pre ++ a.enc) (⟨1, 0, 0⟩ :: post) (need + 1) R (by omega) (by omega) hl ?_
    rw [← e3] at hl ⊢
    have e5 : need + 1 - 1 = need := by omega
    have e6 : (((pre ++ a.enc).length : Nat) : Int) - 1 = (pre.length : Int) + (a.enc.length : Int) - 1 := by rw [List.length_append]; omega
    rw [e5, e6]
    exact starts_ev a pre (b.enc ++ (⟨1, 0, 0⟩ :: post)) need R hn (by omega) hl h
  | .or a b, pre, post, need, R, hn, hn2, hl, h => by
    have ha := a.enc_pos
    have hb := b.enc_pos
    have hlen : (Tm.or a b).enc.length = a.enc.length + b.enc.length + 1 := by simp [Tm.enc]; omega
    have e0 : pre ++ ((Tm.or a b).enc ++ post) = pre ++ (a.enc ++ (b.enc ++ (⟨2, 0, 0⟩ :: post))) := by simp [Tm.enc]
    rw [e0] at h hl ⊢
    have e1 : (pre.length : Int) + ((Tm.or a b).enc.length : Int) - 1 = ((pre.length + (a.enc.length + b.enc.length) : Nat) : Int) := by omega
    rw [e1]
    have hi : pre.length + (a.enc.length + b.enc.length) < (pre ++ (a.enc ++ (b.enc ++ (⟨2, 0, 0⟩ :: post)))).length := by simp only [List.length_append, List.length_cons]; omega
    refine starts_step _ need _ R hn (by omega) hi hl ?_
    have e2 : (pre ++ (a.enc ++ (b.enc ++ ((⟨2, 0, 0⟩ : S77) :: post))))[pre.length + (a.enc.length + b.enc.length)]'hi = ⟨2, 0, 0⟩ := by
      rw [List.getElem_append_right (by omega), List.getElem_append_right (by omega), List.getElem_append_right (by omega)]
      simp only [Nat.add_sub_cancel_left, Nat.sub_self, List.getElem_cons_zero]
    rw [e2]
    simp only [show ¬ ((2 : Int) = 0) by decide, if_false]
    have e3 : pre ++ (a.enc ++ (b.enc ++ ((⟨2, 0, 0⟩ : S77) :: post))) = (pre ++ a.enc) ++ (b.enc ++ (⟨2, 0, 0⟩ :: post)) := by simp
    rw [e3] at hl ⊢
    have e4 : ((pre.length + (a.enc.length + b.enc.length) : Nat) : Int) - 1 = (((pre ++ a.enc).length : Nat) : Int) + (b.enc.length : Int) - 1 := by rw [List.length_append]; omega
    rw [e4]
    refine starts_ev b (pre ++ a.enc) (⟨2, 0, 0⟩ :: post) (need + 1) R (by omega) (by omega) hl ?_
    rw [← e3] at hl ⊢
    have e5 : need + 1 - 1 = need := by omega
    have e6 : (((pre ++ a.enc).length : Nat) : Int) - 1 = (pre.length : Int) + (a.enc.length : Int) - 1 := by rw [List.length_append]; omega
    rw [e5, e6]
    exact starts_ev a pre (b.enc ++ (⟨2, 0, 0⟩ :: post)) need R hn (by omega) hl h
theorem starts_at (a b : Tm) (op : S77) (hl : (a.enc ++ (b.enc ++ [op])).length < 2147483648) : Ev (fun k => spec_l3Starts.f k (a.enc ++ (b.enc ++ [op])) (((a.enc ++ (b.enc ++ [op])).length : Int) - 1 - 1)) (a.enc.length : Int) := by
  unfold spec_l3Starts.f
  have hlen : (a.enc ++ (b.enc ++ [op])).length = a.enc.length + b.enc.length + 1 := by simp; omega
  have e : ((a.enc ++ (b.enc ++ [op])).length : Int) - 1 - 1 = (a.enc.length : Int) + (b.enc.length : Int) - 1 := by omega
  rw [e]
  refine starts_ev b a.enc [op] 1 _ (by omega) (by omega) (by omega) ?_
  refine Ev.succ (g := fun _ => some (wrap64 ((a.enc.length : Int) - 1 + 1))) (fun k => rfl) ?_
  rw [w64 _ (by omega) (by omega)]
  exact ⟨0, fun _ _ => by rw [Int.sub_add_cancel]⟩
def smallA (a n : Int) : Bool := decide (0 ≤ a ∧ a ≤ 3 ∧ 1 ≤ n ∧ n ≤ 99)
theorem brk_size (s : ByteArray) : (brk s).size = s.size + 2 := by
  unfold brk
  rw [app_size, app_size]
  have s1 : (⟨#[40]⟩ : ByteArray).size = 1 := rfl
  have s2 : (⟨#[41]⟩ : ByteArray).size = 1 := rfl
  omega
theorem letter_size (a : Int) : (letter a).size = 1 := by
  unfold letter strOfNums
  rfl
theorem txt_size : ∀ t : Tm, t.All smallA = true → t.txt.size ≤ 5 * t.enc.length ∧ 0 < t.txt.size
  | .atom a n, h => by
    simp only [Tm.All, smallA, decide_eq_true_eq] at h
    have h2 := numB_size n (by omega) (by omega)
    simp only [Tm.txt, app_size, letter_size, Tm.enc, List.length_cons, List.length_nil]
    omega
  | .an a b, h => by
    simp only [Tm.All, Bool.and_eq_true] at h
    have ha := txt_size a h.1
    have hb := txt_size b h.2
    have hc : (⟨#[38]⟩ : ByteArray).size = 1 := rfl
    have hx : (if a.isOr = true then brk a.txt else a.txt).size ≤ a.txt.size + 2 := by split <;> simp [brk_size]
    have hy : (if b.isAtom = true then b.txt else brk b.txt).size ≤ b.txt.size + 2 := by split <;> simp [brk_size]
    simp only [Tm.txt, app_size, Tm.enc, List.length_append, List.length_cons, List.length_nil]
    omega
  | .or a b, h => by
    simp only [Tm.All, Bool.and_eq_true] at h
    have ha := txt_size a h.1
    have hb := txt_size b h.2
    have hc : (⟨#[124]⟩ : ByteArray).size = 1 := rfl
    have hy : (if b.isOr = true then brk b.txt else b.txt).size ≤ b.txt.size + 2 := by split <;> simp [brk_size]
    simp only [Tm.txt, app_size, Tm.enc, List.length_append, List.length_cons, List.length_nil]
    omega
theorem enc_last (t : Tm) : ∃ pre m, t.enc = pre ++ [m] ∧ ((m.f0 = 2) ↔ t.isOr = true) ∧ ((m.f0 = 0) ↔ t.isAtom = true) := by
  cases t with
  | atom a n => exact ⟨[], ⟨0, a, n⟩, rfl, by simp [Tm.isOr], by simp [Tm.isAtom]⟩
  | an a b => exact ⟨a.enc ++ b.enc, ⟨1, 0, 0⟩, by simp [Tm.enc], by simp [Tm.isOr], by simp [Tm.isAtom]⟩
  | or a b => exact ⟨a.enc ++ b.enc, ⟨2, 0, 0⟩, by simp [Tm.enc], by simp [Tm.isOr], by simp [Tm.isAtom]⟩
end Go.Proofs.YtnkfbappnpnaoaaDoor.Q
