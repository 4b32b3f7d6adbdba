/- A part of this claim's proof: functions of the program as plain functions, with the proof that the code comes to their answers, and facts about them. Condition: none of its own. -/
import Derived.Test.YtnkfbappnpnaoaaDoorCJx1
import Derived.Test.YtnkfbappnpnaoaaDoorCJx8
import Derived.Test.YtnkfbappnpnaoaaDoorCJx10
import Derived.Test.YtnkfbappnpnaoaaDoorCJx7
import Derived.Test.YtnkfbappnpnaoaaDoorCJx9
import Derived.Test.YtnkfbappnpnaoaaDoorCJx5
import Derived.Test.YtnkfbappnpnaoaaDoorCJz
namespace Go.Proofs.YtnkfbappnpnaoaaDoor.Q
open Go.RowKit Go.Proofs.YtnkfbappnpnaoaaDoorW.PrintWords Go.Proofs.YtnkfbappnpnaoaaDoorW.PrintLast Go.Proofs.YtnkfbappnpnaoaaDoorW.PrintMore
attribute [local go_sem] max2_int min2_int max_two min_two max_three min_three max_four min_four   -- for this text's walks alone
set_option linter.unusedVariables false
set_option linter.unusedSimpArgs false
def spec_TermText.f (k : Nat) (a0_0 : Int) (l0_1 : List Int) (l1 : List (S77)) : Option (ByteArray) := (spec_TermOk.f k a0_0 l0_1 l1).bind fun t279 => (if t279 = true then ((spec_l3Text.f k l1).bind fun t280 => (some t280)) else (some (⟨#[]⟩ : ByteArray)))
set_option maxHeartbeats 8000000 in
set_option maxRecDepth 100000 in
theorem spec_TermText.calls (k : Nat) (a0_0 : Int) (A0_1 : Option Addr) (c0_1 : Nat) (l0_1 : List Int) (A1 : Option Addr) (c1 : Nat) (l1 : List (S77)) (r : ByteArray) (w : World) (hr0_1 : Kd.C (Kd.int .i64) w A0_1 l0_1.length l0_1) (hc0_1 : l0_1.length ≤ c0_1) (hr1 : Kd.C k77 w A1 l1.length l1) (hc1 : l1.length ≤ c1) (h : spec_TermText.f k a0_0 l0_1 l1 = some r) :
    Calls Tryd.prog 41 #[.agg #[.int .i64 a0_0, .slice A0_1 l0_1.length c0_1], .slice A1 l1.length c1] w fun e w' => e = .returned (.string r) ∧ Below w.heap.size w w' := by
 have hu47 := Tryd.underlying47
 have HR0_1 := Aside0.mk hr0_1
 have HC0_1 := Aside0.mk hc0_1
 clear hr0_1 hc0_1
 have HR1 := Aside0.mk hr1
 have HC1 := Aside0.mk hc1
 clear hr1 hc1
 have HB := Aside0.mk (Below.refl w.heap.size w)
 have H : ((spec_TermOk.f k a0_0 l0_1 l1).bind fun t279 => (if t279 = true then ((spec_l3Text.f k l1).bind fun t280 => (some t280)) else (some (⟨#[]⟩ : ByteArray)))) = some r := h
 clear h
 replace H := Option.bind_eq_some_iff.mp H
 obtain ⟨t279, A30, H⟩ := H
 try dsimp only at H
 have A3 := Aside0.mk A30
 clear A30
 by_cases c4 : t279 = true
 {
 subst c4
 rw [if_pos rfl] at H
 replace H := Option.bind_eq_some_iff.mp H
 obtain ⟨t280, A50, H⟩ := H
 try dsimp only at H
 have A5 := Aside0.mk A50
 clear A50
 obtain rfl := Option.some.inj H
 go_enter Tryd.func41, Tryd.ntmps41
 go_wp2_with (first | ((with_reducible refine gate_dst (N := 2) rfl ?_); refine box_event ?hg (N := 2) ?hd (cs := #[.int .i64 a0_0, .slice A0_1 l0_1.length c0_1]) (t := 47) ?hr ?_; (case hd => rfl); (case hg => rfl); (case hr => exact zcj_12); intro gb278 hg w6 hbox hb; refine zcj_f23 ?_; clear HB; intro HB BK278 GW278 GE278; clear hb hbox hg; have hcz7_0 : w6.cell? ⟨gb278, 0, none⟩ = some (.int .i64 a0_0) := (blk_cell BK278.out 0).trans rfl; have hcz7_1 : w6.cell? ⟨gb278, 1, none⟩ = some (.slice A0_1 l0_1.length c0_1) := (blk_cell BK278.out 1).trans rfl; have hfz7_0 := blk_frozen BK278.out 0; have hfz7_1 := blk_frozen BK278.out 1) | ((with_reducible refine gate_callee (f := 52) rfl ?_); refine goesL_ (some 7) rfl rfl Tryd.func52 (by kernel_rfl) rfl #[.agg #[.int .i64 a0_0, .slice A0_1 l0_1.length c0_1], .slice A1 l1.length c1] rfl zcj_3 ?_; (with_reducible refine (spec_TermOk.calls k a0_0 _ _ l0_1 _ _ l1 true _ ?side1 ?side2 ?side3 ?side4 A3.out).mono ?_); (case side1 => exact zcj_83); (case side2 => exact HC0_1.out); (case side3 => exact zcj_110); (case side4 => exact HC1.out); rintro e w8 ⟨rfl, hb⟩; refine ⟨_, rfl, ?_⟩; refine zcj_f12 ?_; clear BK278; clear HB; intro BK278 HB; (try clear hb); (try clear hb2); (try clear hk); (try clear hi)) | ((with_reducible refine gate_callee (f := 53) rfl ?_); refine goesL_ (some 10) rfl rfl Tryd.func53 (by kernel_rfl) rfl #[.slice A1 l1.length c1] rfl zcj_3 ?_; (with_reducible refine (spec_l3Text.calls k _ _ l1 t280 _ ?side1 ?side2 A5.out).mono ?_); (case side1 => exact zcj_110); (case side2 => exact HC1.out); rintro e w9 ⟨rfl, hb⟩; refine ⟨_, rfl, ?_⟩; refine zcj_f12 ?_; clear BK278; clear HB; intro BK278 HB; (try clear hb); (try clear hb2); (try clear hk); (try clear hi)))
 go_ret
 exact ⟨zcj_13, zcj_111⟩
 }
 {
 replace c4 := Bool.eq_false_iff.mpr c4
 subst c4
 rw [if_neg (show ¬ (false = true) by decide)] at H
 obtain rfl := Option.some.inj H
 go_enter Tryd.func41, Tryd.ntmps41
 go_wp2_with (first | ((with_reducible refine gate_dst (N := 2) rfl ?_); refine box_event ?hg (N := 2) ?hd (cs := #[.int .i64 a0_0, .slice A0_1 l0_1.length c0_1]) (t := 47) ?hr ?_; (case hd => rfl); (case hg => rfl); (case hr => exact zcj_12); intro gb278 hg w10 hbox hb; refine zcj_f23 ?_; clear HB; intro HB BK278 GW278 GE278; clear hb hbox hg; have hcz11_0 : w10.cell? ⟨gb278, 0, none⟩ = some (.int .i64 a0_0) := (blk_cell BK278.out 0).trans rfl; have hcz11_1 : w10.cell? ⟨gb278, 1, none⟩ = some (.slice A0_1 l0_1.length c0_1) := (blk_cell BK278.out 1).trans rfl; have hfz11_0 := blk_frozen BK278.out 0; have hfz11_1 := blk_frozen BK278.out 1) | ((with_reducible refine gate_callee (f := 52) rfl ?_); refine goesL_ (some 7) rfl rfl Tryd.func52 (by kernel_rfl) rfl #[.agg #[.int .i64 a0_0, .slice A0_1 l0_1.length c0_1], .slice A1 l1.length c1] rfl zcj_3 ?_; (with_reducible refine (spec_TermOk.calls k a0_0 _ _ l0_1 _ _ l1 false _ ?side1 ?side2 ?side3 ?side4 A3.out).mono ?_); (case side1 => exact zcj_83); (case side2 => exact HC0_1.out); (case side3 => exact zcj_110); (case side4 => exact HC1.out); rintro e w12 ⟨rfl, hb⟩; refine ⟨_, rfl, ?_⟩; refine zcj_f12 ?_; clear BK278; clear HB; intro BK278 HB; (try clear hb); (try clear hb2); (try clear hk); (try clear hi)))
 go_ret
 exact ⟨zcj_13, zcj_111⟩
 }
end Go.Proofs.YtnkfbappnpnaoaaDoor.Q
namespace Go.Proofs.YtnkfbappnpnaoaaDoor.Q
open Go.RowKit Go.Proofs.YtnkfbappnpnaoaaDoorW.PrintWords Go.Proofs.YtnkfbappnpnaoaaDoorW.PrintLast Go.Proofs.YtnkfbappnpnaoaaDoorW.PrintMore
attribute [local go_sem] max2_int min2_int max_two min_two max_three min_three max_four min_four   -- for this text's walks alone
set_option linter.unusedVariables false
set_option linter.unusedSimpArgs false
theorem l3_or (L A B : List S77) (n a : Int) (ta tb : ByteArray) (b : Bool) (hn : (L.length : Int) = n) (h2 : 3 ≤ n) (h3 : n ≤ 1000000) (hs : Ev (fun k => spec_l3Starts.f k L (n - 1 - 1)) a) (ha : 1 ≤ a ∧ a ≤ n - 2)
    (hA : L.take a.toNat = A) (hB : (L.take (n - 1).toNat).drop a.toNat = B) (eA : Ev (fun k => spec_l3Text.f k A) ta) (eB : Ev (fun k => spec_l3Text.f k B) tb) (hta : ta.size ≤ 100000000) (htb : tb.size ≤ 100000000)
    (hop : (rd_T77 L (n - 1)).f0 = 2) (hb : (rd_T77 L (n - 1 - 1)).f0 = 2 ↔ b = true) : Ev (fun k => spec_l3Text.f k L) ((ta ++ (⟨#[124]⟩ : ByteArray)) ++ (if b then brk tb else tb)) := by
  obtain ⟨k1, h1⟩ := hs
  obtain ⟨k2, eA⟩ := eA
  obtain ⟨k3, eB⟩ := eB
  refine ⟨k1 + k2 + k3 + 1, fun k hk => ?_⟩
  obtain ⟨m, rfl⟩ : ∃ m, k = m + 1 := ⟨k - 1, by omega⟩
  have h1 := h1 m (by omega)
  have eA := eA m (by omega)
  have eB := eB m (by omega)
  have w1 : wrap64 (n - 1) = n - 1 := w64 _ (by omega) (by omega)
  have w2 : wrap64 (n - 1 - 1) = n - 1 - 1 := w64 _ (by omega) (by omega)
  have s1 : (⟨#[40]⟩ : ByteArray).size = 1 := rfl
  have s2 : (⟨#[41]⟩ : ByteArray).size = 1 := rfl
  have s3 : (⟨#[124]⟩ : ByteArray).size = 1 := rfl
  simp only [spec_l3Text.f, hn, w1, w2, hop, h1, hA, hB, eA, eB, Option.bind_some, app_size, s1, s2, s3]
  rw [if_pos (by omega), if_pos (by omega), if_neg (by decide), if_pos (by omega), if_pos (by omega), if_pos (by omega), if_pos (by omega), if_pos trivial, if_pos (by omega), if_pos (by omega)]
  cases b with
  | true =>
    rw [if_pos (hb.2 rfl), if_pos (by omega), if_pos (by omega), if_pos (by omega), if_pos (by omega)]
    rfl
  | false =>
    rw [if_neg (fun h => by simpa using hb.1 h), if_pos (by omega), if_pos (by omega)]
    rfl
theorem l3_an (L A B : List S77) (n a : Int) (ta tb : ByteArray) (b c : Bool) (hn : (L.length : Int) = n) (h2 : 3 ≤ n) (h3 : n ≤ 1000000) (hs : Ev (fun k => spec_l3Starts.f k L (n - 1 - 1)) a) (ha : 1 ≤ a ∧ a ≤ n - 2)
    (hA : L.take a.toNat = A) (hB : (L.take (n - 1).toNat).drop a.toNat = B) (eA : Ev (fun k => spec_l3Text.f k A) ta) (eB : Ev (fun k => spec_l3Text.f k B) tb) (hta : ta.size ≤ 100000000) (htb : tb.size ≤ 100000000)
    (hop : (rd_T77 L (n - 1)).f0 = 1) (hc : (rd_T77 L (a - 1)).f0 = 2 ↔ c = true) (hb : (rd_T77 L (n - 1 - 1)).f0 = 0 ↔ b = true) : Ev (fun k => spec_l3Text.f k L) (((if c then brk ta else ta) ++ (⟨#[38]⟩ : ByteArray)) ++ (if b then tb else brk tb)) := by
  obtain ⟨k1, h1⟩ := hs
  obtain ⟨k2, eA⟩ := eA
  obtain ⟨k3, eB⟩ := eB
  refine ⟨k1 + k2 + k3 + 1, fun k hk => ?_⟩
  obtain ⟨m, rfl⟩ : ∃ m, k = m + 1 := ⟨k - 1, by omega⟩
  have h1 := h1 m (by omega)
  have eA := eA m (by omega)
  have eB := eB m (by omega)
  have w1 : wrap64 (n - 1) = n - 1 := w64 _ (by omega) (by omega)
  have w2 : wrap64 (n - 1 - 1) = n - 1 - 1 := w64 _ (by omega) (by omega)
  have w3 : wrap64 (a - 1) = a - 1 := w64 _ (by omega) (by omega)
  have s1 : (⟨#[40]⟩ : ByteArray).size = 1 := rfl
  have s2 : (⟨#[41]⟩ : ByteArray).size = 1 := rfl
  have s3 : (⟨#[38]⟩ : ByteArray).size = 1 := rfl
  simp only [spec_l3Text.f, hn, w1, w2, w3, hop, h1, hA, hB, eA, eB, Option.bind_some, app_size, s1, s2, s3]
  rw [if_pos (by omega), if_pos (by omega), if_neg (by decide), if_pos (by omega), if_pos (by omega), if_pos (by omega), if_pos (by omega), if_neg (by decide), if_pos (by omega), if_pos (by omega)]
  cases c with
  | true =>
    rw [if_pos (hc.2 rfl), if_pos (by omega), if_pos (by omega), if_pos (by omega), if_pos (by omega)]
    cases b with
    | true =>
      rw [if_pos (hb.2 rfl), if_pos (by omega), if_pos (by omega)]
      rfl
    | false =>
      rw [if_neg (fun h => by simpa using hb.1 h), if_pos (by omega), if_pos (by omega), if_pos (by omega), if_pos (by omega)]
      rfl
  | false =>
    rw [if_neg (fun h => by simpa using hc.1 h), if_pos (by omega), if_pos (by omega)]
    cases b with
    | true =>
      rw [if_pos (hb.2 rfl), if_pos (by omega), if_pos (by omega)]
      rfl
    | false =>
      rw [if_neg (fun h => by simpa using hb.1 h), if_pos (by omega), if_pos (by omega), if_pos (by omega), if_pos (by omega)]
      rfl
theorem parts_of (a b : Tm) (op : S77) : let L := a.enc ++ (b.enc ++ [op])
    L.take (a.enc.length : Int).toNat = a.enc ∧ (L.take ((L.length : Int) - 1).toNat).drop (a.enc.length : Int).toNat = b.enc ∧ rd_T77 L ((L.length : Int) - 1) = op ∧
    ((rd_T77 L ((L.length : Int) - 1 - 1)).f0 = 2 ↔ b.isOr = true) ∧ ((rd_T77 L ((L.length : Int) - 1 - 1)).f0 = 0 ↔ b.isAtom = true) ∧ ((rd_T77 L ((a.enc.length : Int) - 1)).f0 = 2 ↔ a.isOr = true) := by
  intro L
  have hlen : L.length = a.enc.length + (b.enc.length + 1) := by simp [L]
  have e1 : ((L.length : Int) - 1).toNat = a.enc.length + b.enc.length := by omega
  have e2 : (a.enc.length : Int).toNat = a.enc.length := by omega
  have ha := a.enc_pos
  have hb := b.enc_pos
  refine ⟨by rw [e2]; simp [L], ?_, ?_, ?_, ?_, ?_⟩
  · rw [e1, e2]
    show ((a.enc ++ (b.enc ++ [op])).take _).drop _ = _
    rw [← List.append_assoc, List.take_left' (by simp), List.drop_left' rfl]
  · have h : (L.length : Int) - 1 = ((a.enc.length + b.enc.length : Nat) : Int) := by omega
    rw [h, rdT_at (by omega)]
    show (a.enc ++ (b.enc ++ [op]))[_]'_ = _
    rw [List.getElem_append_right (by omega), List.getElem_append_right (by omega)]
    simp
  · obtain ⟨pre, m, hm, h2, _⟩ := enc_last b
    have hl2 : b.enc.length = pre.length + 1 := by rw [hm]; simp
    have h : (L.length : Int) - 1 - 1 = ((a.enc.length + pre.length : Nat) : Int) := by omega
    rw [h, rdT_at (by omega)]
    have e : (a.enc ++ (b.enc ++ [op]))[a.enc.length + pre.length]'zcj_112 = m := by
      rw [List.getElem_append_right (by omega)]
      simp [hm]
    rw [e]
    exact h2
  · obtain ⟨pre, m, hm, _, h2⟩ := enc_last b
    have hl2 : b.enc.length = pre.length + 1 := by rw [hm]; simp
    have h : (L.length : Int) - 1 - 1 = ((a.enc.length + pre.length : Nat) : Int) := by omega
    rw [h, rdT_at (by omega)]
    have e : (a.enc ++ (b.enc ++ [op]))[a.enc.length + pre.length]'zcj_112 = m := by
      rw [List.getElem_append_right (by omega)]
      simp [hm]
    rw [e]
    exact h2
  · obtain ⟨pre, m, hm, h2, _⟩ := enc_last a
    have hl2 : a.enc.length = pre.length + 1 := by rw [hm]; simp
    have h : (a.enc.length : Int) - 1 = ((pre.length : Nat) : Int) := by omega
    rw [h, rdT_at (by omega)]
    have e : (a.enc ++ (b.enc ++ [op]))[pre.length]'zcj_112 = m := by
      simp [hm]
    rw [e]
    exact h2
theorem l3Text_ev : ∀ t : Tm, t.All smallA = true → t.enc.length ≤ 1000000 → Ev (fun k => spec_l3Text.f k t.enc) t.txt
  | .atom a n, h, _ => by
    simp only [Tm.All, smallA, decide_eq_true_eq] at h
    obtain ⟨k0, h0⟩ := l1Number_ev n (by omega) (by omega)
    refine ⟨k0 + 1, fun k hk => ?_⟩
    obtain ⟨m, rfl⟩ : ∃ m, k = m + 1 := ⟨k - 1, by omega⟩
    have h0 : spec_l1Number.f m n = some (numB n) := h0 m (by omega)
    have h2 := numB_size n (by omega) (by omega)
    have h1 := letter_size a
    unfold letter at h1
    show spec_l3Text.f (m + 1) [⟨0, a, n⟩] = _
    have hn : (([(⟨0, a, n⟩ : S77)].length : Nat) : Int) = 1 := rfl
    have w0 : wrap64 (1 - 1) = 0 := w64 _ (by decide) (by decide)
    have w1 : wrap64 0 = 0 := w0
    have hr : rd_T77 [(⟨0, a, n⟩ : S77)] 0 = ⟨0, a, n⟩ := rfl
    unfold spec_l3Text.f
    rw [hn, w0, hr, if_pos (by decide), if_pos (by decide), if_pos rfl, Option.bind_some]
    show ((spec_l1Number.f m n).bind fun t261 => if (strOfNums [wrap64 (65 + a) % 256]).size + t261.size ≤ 9223372036854775807 then some (strOfNums [wrap64 (65 + a) % 256] ++ t261) else none) = _
    rw [h0, Option.bind_some, if_pos (by omega)]
    rfl
  | .an a b, h, hl => by
    simp only [Tm.All, Bool.and_eq_true] at h
    have ha := a.enc_pos
    have hb := b.enc_pos
    have hlen : (Tm.an a b).enc.length = a.enc.length + b.enc.length + 1 := by simp only [Tm.enc, List.length_append, List.length_cons, List.length_nil]; omega
    have sa := txt_size a h.1
    have sb := txt_size b h.2
    obtain ⟨p1, p2, p3, p4, p5, p6⟩ := parts_of a b ⟨1, 0, 0⟩
    have hs := starts_at a b ⟨1, 0, 0⟩ (by show (Tm.an a b).enc.length < _; omega)
    exact l3_an (Tm.an a b).enc a.enc b.enc _ _ a.txt b.txt b.isAtom a.isOr rfl (by omega) (by omega) hs (by omega) p1 p2 (l3Text_ev a h.1 (by omega)) (l3Text_ev b h.2 (by omega)) (by omega) (by omega) (congrArg S77.f0 p3) p6 p5
  | .or a b, h, hl => by
    simp only [Tm.All, Bool.and_eq_true] at h
    have ha := a.enc_pos
    have hb := b.enc_pos
    have hlen : (Tm.or a b).enc.length = a.enc.length + b.enc.length + 1 := by simp only [Tm.enc, List.length_append, List.length_cons, List.length_nil]; omega
    have sa := txt_size a h.1
    have sb := txt_size b h.2
    obtain ⟨p1, p2, p3, p4, p5, p6⟩ := parts_of a b ⟨2, 0, 0⟩
    have hs := starts_at a b ⟨2, 0, 0⟩ (by show (Tm.or a b).enc.length < _; omega)
    exact l3_or (Tm.or a b).enc a.enc b.enc _ _ a.txt b.txt b.isOr rfl (by omega) (by omega) hs (by omega) p1 p2 (l3Text_ev a h.1 (by omega)) (l3Text_ev b h.2 (by omega)) (by omega) (by omega) (congrArg S77.f0 p3) p4
theorem house_bodies {p : Int} {bs : List Int} (h : houseOk p bs = true) : (1 ≤ p ∧ p ≤ 6) ∧ bs.length ≤ 4 ∧ ∀ b ∈ bs, 1 ≤ b ∧ b < 2 ^ p.toNat := by
  unfold houseOk crowdOk at h
  simp only [Bool.and_eq_true, decide_eq_true_eq, List.all_eq_true, Bool.not_eq_true', beq_eq_false_iff_ne] at h
  refine ⟨h.1.2, h.2, fun b hb => ?_⟩
  have := h.1.1 b hb
  exact ⟨by have := this.1.2.2.1; omega, this.1.2.2.2⟩
theorem headsN_small : ∀ b : Fin 64, headsN (b.val : Int) ≤ 6 := by decide +kernel
theorem headsN_le6 {b : Int} (h0 : 0 ≤ b) (h : b < 64) : headsN b ≤ 6 := by
  have := headsN_small ⟨b.toNat, by omega⟩
  rwa [show ((b.toNat : Nat) : Int) = b by omega] at this
theorem All_mono {P Q : Int → Int → Bool} (h : ∀ a n, P a n = true → Q a n = true) : ∀ t : Tm, t.All P = true → t.All Q = true
  | .atom a n, ht => h a n ht
  | .an a b, ht => by
    simp only [Tm.All, Bool.and_eq_true] at ht ⊢
    exact ⟨All_mono h a ht.1, All_mono h b ht.2⟩
  | .or a b, ht => by
    simp only [Tm.All, Bool.and_eq_true] at ht ⊢
    exact ⟨All_mono h a ht.1, All_mono h b ht.2⟩
theorem pow6 {p : Int} (h : 1 ≤ p ∧ p ≤ 6) : (2 : Int) ^ p.toNat ≤ 64 := by
  have : (2 : Nat) ^ p.toNat ≤ 2 ^ 6 := Nat.pow_le_pow_right (by decide) (by omega)
  have h2 : ((2 ^ p.toNat : Nat) : Int) = 2 ^ p.toNat := by norm_cast
  omega
def digitA (a n : Int) : Bool := decide (0 ≤ a ∧ a ≤ 3 ∧ 1 ≤ n ∧ n ≤ 6)
theorem atom_digit {p : Int} {bs : List Int} (h : houseOk p bs = true) (a n : Int) (ha : atomOk bs a n = true) : digitA a n = true := by
  obtain ⟨h1, h2, h3⟩ := house_bodies h
  unfold atomOk at ha
  rw [decide_eq_true_eq] at ha
  have hm := h3 _ (rd_mem ha.1 ha.2.1)
  have := pow6 h1
  have := headsN_le6 (b := rd bs a) (by omega) (by omega)
  unfold digitA
  rw [decide_eq_true_eq]
  omega
theorem digit_small (a n : Int) (h : digitA a n = true) : smallA a n = true := by
  unfold digitA at h
  unfold smallA
  rw [decide_eq_true_eq] at h ⊢
  omega
theorem termText_tot (p : Int) (bs : List Int) (t : List S77) (hb : bs.length < 4294967296) (hbs : ∀ b ∈ bs, b ≤ 9223372036854775807) (ht : t.length < 4294967296) :
    Tot (fun k => spec_TermText.f k p bs t) (fun s => s.size ≤ 45 ∧ ((termOk p bs t = false ∧ s = ⟨#[]⟩) ∨ ∃ x : Tm, t = x.enc ∧ x.All (atomOk bs) = true ∧ houseOk p bs = true ∧ t.length ≤ 9 ∧ s = x.txt)) := by
  unfold spec_TermText.f
  refine Tot.bind (Tot.ev (term_ev p bs t hb hbs ht) (P := fun b => b = termOk p bs t) rfl) ?_
  rintro b rfl
  cases h : termOk p bs t with
  | false => exact Tot.no Bool.false_ne_true (Tot.pure ⟨by decide, Or.inl ⟨rfl, rfl⟩⟩)
  | true =>
    refine Tot.yes rfl ?_
    obtain ⟨x, rfl, hx, hh, hl⟩ := termOk_tree h
    have hs := All_mono digit_small x (All_mono (atom_digit hh) x hx)
    refine Tot.bind (Tot.ev (l3Text_ev x hs (by omega)) (P := fun b => b = x.txt) rfl) ?_
    rintro b rfl
    exact Tot.pure ⟨by have := txt_size x hs; omega, Or.inr ⟨x, rfl, hx, hh, hl, rfl⟩⟩
end Go.Proofs.YtnkfbappnpnaoaaDoor.Q
namespace Go.Proofs.YtnkfbappnpnaoaaDoor.Q
open Go.RowKit Go.Proofs.YtnkfbappnpnaoaaDoorW.PrintWords Go.Proofs.YtnkfbappnpnaoaaDoorW.PrintLast Go.Proofs.YtnkfbappnpnaoaaDoorW.PrintMore
attribute [local go_sem] max2_int min2_int max_two min_two max_three min_three max_four min_four   -- for this text's walks alone
set_option linter.unusedVariables false
set_option linter.unusedSimpArgs false
theorem ne_typed {W : World} {v : Value} {e e' : TypeId} {ad : Addr} {n c : Nat} (h1 : ∀ k, v.ownBlock = some k → ∃ cells, W.heap[k]? = some (.cells cells e (0, 0)))
    (h2 : ∀ k, (Value.slice (some ad) n c).ownBlock = some k → ∃ cells, W.heap[k]? = some (.cells cells e' (0, 0))) (hne : e ≠ e') : some ad.block ≠ v.ownBlock := by
  intro h
  obtain ⟨c1, g1⟩ := h1 _ h.symm
  obtain ⟨c2, g2⟩ := h2 _ rfl
  rw [g1] at g2
  injection g2 with g2
  injection g2 with _ g2
  exact hne g2
end Go.Proofs.YtnkfbappnpnaoaaDoor.Q
