/- A part of this claim's proof: functions of the program as plain functions, with the proof that the code comes to their answers, and facts about them. Condition: none of its own. -/
import Derived.Deep.DeepFit
import Derived.Deep.LoopGhost
import Derived.Lib.AtoiAll
import Derived.Lib.LaidTab
import Derived.Outline
import Derived.Shelf.Strconv.AtoiAll
import Derived.Shelf.Strconv.Itoa3
import Derived.Shelf.Strings.Split
import Derived.Test.YtnkfbappnpnaoaaDoorCDx1
import Derived.Test.YtnkfbappnpnaoaaDoorCDx5
import Derived.Test.YtnkfbappnpnaoaaDoorCDx9
import Derived.Test.YtnkfbappnpnaoaaDoorCDx11
import Derived.Test.YtnkfbappnpnaoaaDoorCDx12
import Derived.Test.YtnkfbappnpnaoaaDoorCDx13
import Derived.Test.YtnkfbappnpnaoaaDoorCDx10
import Derived.Test.YtnkfbappnpnaoaaDoorCDx3
import Derived.Test.YtnkfbappnpnaoaaDoorCDz
namespace Go.Proofs.YtnkfbappnpnaoaaDoor.Q
open Go.RowKit Go.Proofs.YtnkfbappnpnaoaaDoorW.PrintWords Go.Proofs.YtnkfbappnpnaoaaDoorW.PrintLast Go.Proofs.YtnkfbappnpnaoaaDoorW.PrintMore
attribute [local go_sem] max2_int min2_int max_two min_two max_three min_three max_four min_four   -- for this text's walks alone
set_option linter.unusedVariables false
set_option linter.unusedSimpArgs false
def Bd (b : Int) : Prop := 1 ≤ b ∧ b ≤ 127
theorem shl1 {p : Int} (h0 : 1 ≤ p) (h1 : p ≤ 6) : 2 ≤ shl .i64 1 p ∧ shl .i64 1 p ≤ 64 := by
  have h := shl_one ⟨p.toNat, by omega⟩
  have h3 : ∀ n : Fin 7, 1 ≤ n.val → 2 ≤ 2 ^ n.val ∧ 2 ^ n.val ≤ 64 := by decide
  have h2 := h3 ⟨p.toNat, by omega⟩ (by show 1 ≤ p.toNat; omega)
  simp only [show ((p.toNat : Nat) : Int) = p by omega] at h
  rw [h]
  simp only at h2
  omega
def Hs (r : Int × List Int × Int) : Prop := (1 ≤ r.1 ∧ r.1 ≤ 6) ∧ (1 ≤ r.2.1.length ∧ r.2.1.length ≤ 3) ∧ ∀ b ∈ r.2.1, Bd b
theorem house_draw_loop {l : List Int} (hl : Bytes l) (people : Int) (hp : 1 ≤ people ∧ people ≤ 6) : ∀ (n : Nat) (left p : Int) (bs : List Int), left = n → 0 ≤ p → p + 16 * n ≤ 900000000 → n ≤ 3 → 1 ≤ bs.length + n → bs.length + n ≤ 3 → (∀ b ∈ bs, Bd b) →
    Tot (fun k => spec_l20House.l0 k 0 left l p people bs) (fun r => Hs r ∧ p ≤ r.2.2 ∧ r.2.2 ≤ p + n)
  | 0, left, p, bs, hn, h0, h1, _, hb0, hb1, hbs => by
    refine Tot.unf ?_
    simp only [spec_l20House.l0]
    refine Tot.no (by omega) (Tot.bind (odd_tot hl h0 (by omega) (by omega)) ?_)
    rintro r ⟨_, _, hq2⟩
    obtain rfl := hq2 (by omega)
    exact Tot.no Bool.false_ne_true (Tot.pure ⟨⟨hp, ⟨by simpa using hb0, by simpa using hb1⟩, hbs⟩, Int.le_refl _, by simp⟩)
  | n + 1, left, p, bs, hn, h0, h1, hn3, hb0, hb1, hbs => by
    have hsh := shl1 hp.1 hp.2
    refine Tot.unf ?_
    simp only [spec_l20House.l0]
    rw [w64 _ (by omega) (by omega)]
    refine Tot.yes (by omega) (Tot.yes (by omega) (Tot.bind (pick_tot hl h0 (by omega) (by omega)) ?_))
    rintro ⟨b, q⟩ ⟨hb2, hb3, _, hq⟩
    simp only at hb2 hb3 hq ⊢
    have hb4 := hb3 (by omega)
    rw [w64 (left - 1) (by omega) (by omega), w64 (1 + b) (by omega) (by omega)]
    refine Tot.yes (by omega) ?_
    refine (house_draw_loop hl people hp n (left - 1) q (bs ++ [1 + b]) (by omega) (by omega) (by omega) (by omega) (by simp; omega) (by simp; omega) ?_).mono (fun r hr => ⟨hr.1, by omega, by omega⟩)
    intro x hx
    rcases List.mem_append.1 hx with hx | hx
    · exact hbs x hx
    · simp at hx
      subst hx
      exact ⟨by omega, by omega⟩
theorem house_draw {l : List Int} (hl : Bytes l) {p : Int} (h0 : 0 ≤ p) (h1 : p ≤ 800000000) : Tot (fun k => spec_l20House.f k l p 0) (fun r => Hs r ∧ p ≤ r.2.2 ∧ r.2.2 ≤ p + 6) := by
  unfold spec_l20House.f
  refine Tot.bind (pick_tot hl h0 (by omega) (by omega)) ?_
  rintro ⟨a, q⟩ ⟨a0, a1, _, hq⟩
  have a2 := a1 (by omega)
  simp only at a0 a2 hq ⊢
  refine Tot.bind (pick_tot hl (by omega) (by omega) (by omega)) ?_
  rintro ⟨b, q2⟩ ⟨b0, b1, _, hq2⟩
  have b2 := b1 (by omega)
  simp only at b0 b2 hq2 ⊢
  refine Tot.bind (pick_tot hl (by omega) (by omega) (by omega)) ?_
  rintro ⟨c, q3⟩ ⟨c0, c1, _, hq3⟩
  have c2 := c1 (by omega)
  simp only at c0 c2 hq3 ⊢
  rw [tdivn b0 (by omega), w64 (1 + c) (by omega) (by omega), w64 (1 + a) (by omega) (by omega), w64 (b / 8) (by omega) (by omega), w64 _ (by omega) (by omega)]
  refine (house_draw_loop hl (1 + a + b / 8) ⟨by omega, by omega⟩ (c + 1).toNat (1 + c) q3 [] (by omega) (by omega) (by omega) (by omega) (by simp; omega) (by simp; omega) (by simp)).mono (fun r hr => ⟨hr.1, by omega, by omega⟩)
def msum : List (List S77) → Nat
  | [] => 0
  | x :: r => x.length + msum r
theorem msum_app : ∀ a b : List (List S77), msum (a ++ b) = msum a + msum b
  | [], b => by simp [msum]
  | x :: r, b => by simp [msum, msum_app r b]; omega
theorem rdL_at {xs : List (List S77)} {i : Nat} (h : i < xs.length) : rd_L6 xs (i : Int) = xs[i] := by simp [rd_L6, List.getD_eq_getElem?_getD, h]
theorem msum_cut (xs : List (List S77)) (i : Nat) (h : i + 1 < xs.length) : msum xs = msum (xs.take i) + (xs[i]'(by omega)).length + xs[i + 1].length + msum (xs.drop (i + 2)) := by
  have e : xs = xs.take i ++ (xs[i]'(by omega) :: xs[i + 1] :: xs.drop (i + 2)) := by
    conv => lhs; rw [← List.take_append_drop i xs]
    rw [List.drop_eq_getElem_cons (show i < xs.length by omega), List.drop_eq_getElem_cons h]
  conv => lhs; rw [e, msum_app]
  simp only [msum]
  omega
theorem wr_1 (i : Nat) (h : i < 4294967296) : wrap64 ((i : Int) + 1) = ((i + 1 : Nat) : Int) := by rw [w64 _ (by omega) (by omega)]; omega
theorem wr_2 (i : Nat) (h : i < 4294967296) : wrap64 ((i : Int) + 2) = ((i + 2 : Nat) : Int) := by rw [w64 _ (by omega) (by omega)]; omega
set_option maxHeartbeats 1000000 in
theorem term_l1_step {l : List Int} (hl : Bytes l) (n : Nat) (xs : List (List S77)) (p : Int) (hn : xs.length = n + 2) (hm : msum xs + xs.length ≤ 8) (h0 : 0 ≤ p) (h1 : p ≤ 900000000) (P : List S77 × Int → Prop)
    (h : ∀ (ys : List (List S77)) (q : Int), ys.length = n + 1 → msum ys + ys.length ≤ 8 → q = p + 2 → Tot (fun k => spec_l20Term.l1 k ys l q) P) : Tot (fun k => spec_l20Term.l1 k xs l p) P := by
  refine Tot.unf ?_
  simp only [spec_l20Term.l1]
  have hm8 : xs.length ≤ 8 := by omega
  rw [w64 ((xs.length : Int) - 1) (by omega) (by omega)]
  refine Tot.yes (by omega) (Tot.bind (pick_tot hl h0 (by omega) (by omega)) ?_)
  rintro ⟨a, q⟩ ⟨a0, a1, _, hq⟩
  have a2 := a1 (by omega)
  simp only at a0 a2 hq
  subst hq
  clear a1
  obtain ⟨i, rfl⟩ : ∃ i : Nat, a = i := ⟨a.toNat, by omega⟩
  have hi : i + 1 < xs.length := by omega
  have hc := msum_cut xs i hi
  have hi1 : i < xs.length := Nat.lt_of_succ_lt hi
  have hi2 : i < 4294967296 := by omega
  have w1 := wr_1 i hi2
  have w2 := wr_2 i hi2
  have r1 : rd_L6 xs (i : Int) = xs[i] := rdL_at hi1
  have r2 : rd_L6 xs ((i + 1 : Nat) : Int) = xs[i + 1] := rdL_at hi
  simp only [w1, w2, r1, r2, Option.bind_some, List.nil_append, List.length_nil, Nat.zero_add, Int.toNat_natCast, List.length_append, List.length_take, List.length_drop, List.length_cons]
  clear w1 w2 r1 r2
  generalize xs[i] = A at hc ⊢
  generalize xs[i + 1] = B at hc ⊢
  have t1 : (xs.take i).length = i := by rw [List.length_take]; omega
  have t2 : (xs.drop (i + 2)).length = n - i := by rw [List.length_drop]; omega
  generalize xs.take i = X at hc t1 ⊢
  generalize xs.drop (i + 2) = Y at hc t2 ⊢
  refine Tot.yes (by omega) (Tot.yes (by omega) (Tot.yes (by omega) (Tot.yes (by omega) (Tot.yes (by omega) (Tot.yes (by omega) (Tot.bind (pick_tot hl (by omega) (by omega) (by omega)) ?_))))))
  rintro ⟨b, q2⟩ ⟨b0, b1, _, hq2⟩
  have b2 := b1 (by omega)
  simp only at b0 b2 hq2
  subst hq2
  clear b1
  refine Tot.yes (by omega) (Tot.yes (by omega) (Tot.yes (by omega) (Tot.yes (by omega) (Tot.yes (by omega) (Tot.yes (by omega) (Tot.yes (by omega) ?_))))))
  refine h _ _ ?_ ?_ (by omega)
  · simp only [List.length_append, List.length_cons, List.length_nil]
    omega
  · simp only [msum_app, msum, List.length_append, List.length_cons, List.length_nil]
    omega
theorem term_l1 {l : List Int} (hl : Bytes l) : ∀ (n : Nat) (xs : List (List S77)) (p : Int), xs.length = n + 1 → msum xs + xs.length ≤ 8 → 0 ≤ p → p + 16 * n ≤ 900000000 → Tot (fun k => spec_l20Term.l1 k xs l p) (fun r => r.1.length ≤ 7 ∧ p ≤ r.2 ∧ r.2 ≤ p + 2 * n)
  | 0, xs, p, hn, hm, h0, h1 => by
    refine Tot.unf ?_
    simp only [spec_l20Term.l1]
    refine Tot.no (by omega) (Tot.yes (by omega) (Tot.pure ⟨?_, Int.le_refl _, by simp⟩))
    match xs, hn, hm with
    | [x], _, hm =>
      simp [msum] at hm
      show x.length ≤ 7
      omega
  | n + 1, xs, p, hn, hm, h0, h1 => by
    refine term_l1_step hl n xs p hn hm h0 (by omega) _ (fun ys q h2 h3 h4 => ?_)
    exact (term_l1 hl n ys q h2 h3 (by omega) (by omega)).mono (fun r hr => ⟨hr.1, by omega, by omega⟩)
def Bodies (bs : List Int) : Prop := bs.length ≤ 1000000 ∧ ∀ b ∈ bs, b ≤ 9223372036854775807
theorem mx_le {a b c : Int} (h1 : a ≤ c) (h2 : b ≤ c) : mx a b ≤ c := by unfold mx; split <;> assumption
theorem mx_ge (a b : Int) : b ≤ mx a b := by unfold mx; split <;> omega
theorem term_l0 {l : List Int} (hl : Bytes l) (people : Int) (bs : List Int) (hb : Bodies bs) (hb1 : 1 ≤ bs.length) : ∀ (n : Nat) (xs : List (List S77)) (left p : Int), left = n → xs.length + n ≤ 4 → 1 ≤ xs.length + n → msum xs = xs.length → 0 ≤ p → p + 16 * n ≤ 880000000 →
    Tot (fun k => spec_l20Term.l0 k xs left l p people bs) (fun r => r.1.length ≤ 7 ∧ p ≤ r.2 ∧ r.2 ≤ p + 2 * n + 6)
  | 0, xs, left, p, hn, hx, hx1, hm, h0, h1 => by
    refine Tot.unf ?_
    simp only [spec_l20Term.l0]
    refine Tot.no (by omega) ?_
    exact (term_l1 hl (xs.length - 1) xs p (by omega) (by omega) h0 (by omega)).mono (fun r hr => ⟨hr.1, by omega, by omega⟩)
  | n + 1, xs, left, p, hn, hx, hx1, hm, h0, h1 => by
    have hbl := hb.1
    refine Tot.unf ?_
    simp only [spec_l20Term.l0]
    refine Tot.yes (by omega) (Tot.bind (pick_tot hl h0 (by omega) (by omega)) ?_)
    rintro ⟨a, q⟩ ⟨a0, a1, _, hq⟩
    have a2 := a1 (by omega)
    simp only at a0 a2 hq ⊢
    have hbm := hb.2 _ (rd_mem a0 a2)
    refine Tot.yes a0 (Tot.yes a2 (Tot.bind (Tot.ev (P := fun h => 0 ≤ h ∧ h ≤ 63) (heads_ev _ (mx_le hbm (by omega))) (headsN_bd _)) ?_))
    rintro h ⟨g0, g1⟩
    have m1 := mx_ge h 1
    have m2 : mx h 1 ≤ 63 := mx_le g1 (by omega)
    refine Tot.bind (pick_tot hl (by omega) (by omega) (by omega)) ?_
    rintro ⟨c, q2⟩ ⟨c0, c1, _, hq2⟩
    have c2 := c1 (by omega)
    simp only at c0 c2 hq2 ⊢
    refine Tot.yes (by omega) ?_
    rw [w64 (left - 1) (by omega) (by omega)]
    refine (term_l0 hl people bs hb hb1 n _ (left - 1) q2 (by omega) (by simp; omega) (by simp; omega) (by rw [msum_app]; simp [msum, hm]) (by omega) (by omega)).mono (fun r hr => ⟨hr.1, by omega, by omega⟩)
theorem term_draw {l : List Int} (hl : Bytes l) (people : Int) (bs : List Int) (hb : Bodies bs) {p n : Int} (h0 : 0 ≤ p) (h1 : p ≤ 800000000) (hn : n ≤ 1000000) : Tot (fun k => spec_l20Term.f k l p people bs n) (fun r => r.1.length ≤ 7 ∧ p ≤ r.2 ∧ r.2 ≤ p + 16) := by
  have hE : ∀ q : Int, 0 ≤ q → q ≤ 800000001 → Tot (fun k => spec_l20Term.j0 k true l q people bs) (fun r => r.1.length ≤ 7 ∧ q ≤ r.2 ∧ r.2 ≤ q + 1) := by
    intro q hq0 hq1
    refine Tot.unf ?_
    simp only [spec_l20Term.j0, if_true, Option.bind_some]
    refine Tot.bind (pick_tot hl hq0 (by omega) (by omega)) ?_
    rintro ⟨a, q2⟩ ⟨a0, a1, _, hq2⟩
    have a2 := a1 (by omega)
    simp only at a0 a2 hq2 ⊢
    refine Tot.yes a0 (Tot.yes (by simp; omega) (Tot.pure ⟨?_, by show q ≤ q2; omega, by show q2 ≤ q + 1; omega⟩))
    have : a = 0 ∨ a = 1 ∨ a = 2 ∨ a = 3 := by omega
    show (rd_L6 _ a).length ≤ 7
    rcases this with rfl | rfl | rfl | rfl <;> decide
  unfold spec_l20Term.f
  refine Tot.ite (fun _ => (hE p h0 (by omega)).mono (fun r hr => ⟨hr.1, hr.2.1, by omega⟩)) (fun hbl => Tot.bind (odd_tot hl h0 (by omega) (by omega)) ?_)
  rintro ⟨b, q⟩ ⟨hq0, hq1, _⟩
  simp only at hq0 hq1 ⊢
  cases b with
  | true => exact (hE q (by omega) (by omega)).mono (fun r hr => ⟨hr.1, by omega, by omega⟩)
  | false =>
    refine Tot.unf ?_
    simp only [spec_l20Term.j0]
    refine Tot.no Bool.false_ne_true (Tot.bind (pick_tot hl (by omega) (by omega) (by omega)) ?_)
    rintro ⟨a, q2⟩ ⟨a0, a1, _, hq2⟩
    have a2 := a1 (by omega)
    simp only at a0 a2 hq2 ⊢
    rw [w64 (1 + a) (by omega) (by omega)]
    refine (term_l0 hl people bs hb (by omega) (a + 1).toNat [] (1 + a) q2 (by omega) (by simp; omega) (by simp; omega) rfl (by omega) (by omega)).mono (fun r hr => ⟨hr.1, by omega, by omega⟩)
def Pl (r : Int × List Int × List ByteArray × Int) : Prop := (1 ≤ r.1 ∧ r.1 ≤ 6) ∧ (1 ≤ r.2.1.length ∧ r.2.1.length ≤ 3) ∧ (∀ b ∈ r.2.1, Bd b) ∧ (1 ≤ r.2.2.1.length ∧ r.2.2.1.length ≤ 3) ∧ ∀ s ∈ r.2.2.1, s.size ≤ 45
theorem bodies_of {bs : List Int} (h : bs.length ≤ 3) (hb : ∀ b ∈ bs, Bd b) : Bodies bs := ⟨by omega, fun b hm => by have := (hb b hm).2; omega⟩
theorem place_loop {l : List Int} (hl : Bytes l) (people : Int) (hp : 1 ≤ people ∧ people ≤ 6) (bs : List Int) (hb : 1 ≤ bs.length ∧ bs.length ≤ 3) (hbs : ∀ b ∈ bs, Bd b) : ∀ (n : Nat) (left p : Int) (rs : List ByteArray), left = n → 0 ≤ p → p + 16 * n ≤ 700000000 → n ≤ 3 → 1 ≤ rs.length + n → rs.length + n ≤ 3 → (∀ s ∈ rs, s.size ≤ 45) →
    Tot (fun k => spec_l20Place.l0 k 0 left l p people bs rs) (fun r => Pl r ∧ p ≤ r.2.2.2 ∧ r.2.2.2 ≤ p + 16 * n)
  | 0, left, p, rs, hn, h0, h1, _, hr0, hr1, hrs => by
    refine Tot.unf ?_
    simp only [spec_l20Place.l0]
    refine Tot.no (by omega) (Tot.bind (odd_tot hl h0 (by omega) (by omega)) ?_)
    rintro r ⟨_, _, hq2⟩
    obtain rfl := hq2 (by omega)
    exact Tot.no Bool.false_ne_true (Tot.pure ⟨⟨hp, hb, hbs, ⟨by simpa using hr0, by simpa using hr1⟩, hrs⟩, Int.le_refl _, by simp⟩)
  | n + 1, left, p, rs, hn, h0, h1, hn3, hr0, hr1, hrs => by
    have hB := bodies_of hb.2 hbs
    refine Tot.unf ?_
    simp only [spec_l20Place.l0]
    refine Tot.yes (by omega) (Tot.bind (term_draw hl people bs hB h0 (by omega) (by omega)) ?_)
    rintro ⟨t, q⟩ ⟨ht, hq0, hq1⟩
    simp only at ht hq0 hq1 ⊢
    refine Tot.bind (termText_tot people bs t (by omega) hB.2 (by omega)) ?_
    rintro s ⟨hs, _⟩
    refine Tot.yes (by omega) ?_
    rw [w64 (left - 1) (by omega) (by omega)]
    refine (place_loop hl people hp bs hb hbs n (left - 1) q (rs ++ [s]) (by omega) (by omega) (by omega) (by omega) (by simp; omega) (by simp; omega) ?_).mono (fun r hr => ⟨hr.1, by omega, by omega⟩)
    intro x hx
    rcases List.mem_append.1 hx with hx | hx
    · exact hrs x hx
    · simp at hx
      subst hx
      exact hs
theorem place_draw {l : List Int} (hl : Bytes l) {p : Int} (h0 : 0 ≤ p) (h1 : p ≤ 600000000) : Tot (fun k => spec_l20Place.f k l p 0) (fun r => Pl r ∧ p ≤ r.2.2.2 ∧ r.2.2.2 ≤ p + 60) := by
  unfold spec_l20Place.f
  refine Tot.bind (house_draw hl h0 (by omega)) ?_
  rintro ⟨people, bs, q⟩ ⟨⟨hp, hb, hbs⟩, hq0, hq1⟩
  simp only at hp hb hbs hq0 hq1 ⊢
  refine Tot.bind (pick_tot hl (by omega) (by omega) (by omega)) ?_
  rintro ⟨a, q2⟩ ⟨a0, a1, _, hq2⟩
  have a2 := a1 (by omega)
  simp only at a0 a2 hq2 ⊢
  rw [w64 (1 + a) (by omega) (by omega)]
  exact (place_loop hl people hp bs hb hbs (a + 1).toNat (1 + a) q2 [] (by omega) (by omega) (by omega) (by omega) (by simp; omega) (by simp; omega) (by simp)).mono (fun r hr => ⟨hr.1, by omega, by omega⟩)
theorem pow_mn (x : Int) : 2 ≤ (2 : Int) ^ (mn (mx x 1) 6).toNat ∧ (2 : Int) ^ (mn (mx x 1) 6).toNat ≤ 64 := by
  have h : 1 ≤ mn (mx x 1) 6 ∧ mn (mx x 1) 6 ≤ 6 := by
    have := mx_ge x 1
    unfold mn
    split <;> omega
  generalize mn (mx x 1) 6 = y at h
  have : ∀ n : Fin 7, 1 ≤ n.val → 2 ≤ (2 : Int) ^ n.val ∧ (2 : Int) ^ n.val ≤ 64 := by decide
  exact this ⟨y.toNat, by omega⟩ (by show 1 ≤ y.toNat; omega)
def Dd (p : Int) (r : Int × Int × Int × ByteArray × Int) : Prop := r.2.2.2.1.size ≤ 45 ∧ p ≤ r.2.2.2.2 ∧ r.2.2.2.2 ≤ p + 40
theorem deed_j0 {l : List Int} (hl : Bytes l) (k0 a b : Int) (z : ByteArray) (hz : z.size ≤ 45) {p : Int} (h0 : 0 ≤ p) (h1 : p ≤ 700000000) : Tot (fun k => spec_l20Deed.j0 k l p k0 a b z) (fun r => r.2.2.2.1.size ≤ 45 ∧ p ≤ r.2.2.2.2 ∧ r.2.2.2.2 ≤ p + 4) := by
  refine Tot.unf ?_
  simp only [spec_l20Deed.j0]
  refine Tot.bind (odd_tot hl h0 (by omega) (by omega)) ?_
  rintro ⟨o, q⟩ ⟨hq0, hq1, _⟩
  simp only at hq0 hq1 ⊢
  refine Tot.ite (fun _ => ?_) (fun _ => Tot.pure ⟨hz, hq0, by show q ≤ p + 4; omega⟩)
  refine Tot.bind (pick_tot hl (by omega) (by omega) (by omega)) ?_
  rintro ⟨c, q2⟩ ⟨c0, c1, _, hq2⟩
  have c2 := c1 (by omega)
  simp only at c0 c2 hq2 ⊢
  refine Tot.ite (fun _ => ?_) (fun _ => Tot.ite (fun _ => ?_) (fun _ => Tot.pure ⟨hz, by show p ≤ q2; omega, by show q2 ≤ p + 4; omega⟩))
  · simp only [Option.bind_some]
    refine Tot.bind (pick_tot hl (by omega) (by omega) (by omega)) ?_
    rintro ⟨d, q3⟩ ⟨d0, d1, _, hq3⟩
    have d2 := d1 (by omega)
    simp only at d0 d2 hq3 ⊢
    exact Tot.yes d0 (Tot.yes (by simp; omega) (Tot.pure ⟨hz, by show p ≤ q3; omega, by show q3 ≤ p + 4; omega⟩))
  · simp only [Option.bind_some]
    refine Tot.bind (pick_tot hl (by omega) (by omega) (by omega)) ?_
    rintro ⟨d, q3⟩ ⟨d0, d1, _, hq3⟩
    have d2 := d1 (by omega)
    simp only at d0 d2 hq3 ⊢
    refine Tot.yes d0 (Tot.yes (by simp; omega) (Tot.pure ⟨?_, by show p ≤ q3; omega, by show q3 ≤ p + 4; omega⟩))
    have : d = 0 ∨ d = 1 ∨ d = 2 := by omega
    show (rdOf ByteArray.empty [(⟨#[40, 65, 49, 41]⟩ : ByteArray), (⟨#[97, 32, 98]⟩ : ByteArray), (⟨#[]⟩ : ByteArray)] d).size ≤ 45
    rcases this with rfl | rfl | rfl <;> decide
theorem deed_draw {l : List Int} (hl : Bytes l) (people : Int) (bs : List Int) (rs : List ByteArray) (hb : Bodies bs) (hr : rs.length ≤ 1000000) {p : Int} (h0 : 0 ≤ p) (h1 : p ≤ 600000000) : Tot (fun k => spec_l20Deed.f k l p people bs rs) (Dd p) := by
  have hw := pow_mn people
  have hlr := mx_le (a := (rs.length : Int)) (b := 1) (c := 1000000) (by omega) (by omega)
  have hz0 : (⟨#[]⟩ : ByteArray).size ≤ 45 := by decide
  unfold spec_l20Deed.f
  generalize (2 : Int) ^ (mn (mx people 1) 6).toNat = W at hw
  generalize mx (rs.length : Int) 1 = M at hlr
  simp only [Option.bind_some]
  rw [w64 W (by omega) (by omega), w64 (W - 1) (by omega) (by omega)]
  refine Tot.bind (pick_tot hl h0 (by omega) (by omega)) ?_
  rintro ⟨a, q⟩ ⟨a0, a1, _, hq⟩
  have a2 := a1 (by omega)
  simp only at a0 a2 hq ⊢
  refine Tot.yes a0 (Tot.yes (by simp; omega) (Tot.bind (pick_tot hl (by omega) (by omega) (by omega)) ?_))
  rintro ⟨b, q2⟩ ⟨b0, b1, _, hq2⟩
  have b2 := b1 (by omega)
  simp only at b0 b2 hq2 ⊢
  generalize wrap64 (rd [0, 1, 2, 2, 2, 2, 3, 4] a + wrap64 (wrap64 (Int.tdiv b 59) * 5)) = K
  refine Tot.ite (fun _ => ?_) (fun _ => Tot.ite (fun _ => ?_) (fun _ => Tot.ite (fun _ => ?_) (fun _ => Tot.ite (fun _ => ?_) (fun _ => ?_))))
  · refine Tot.bind (pick_tot hl (by omega) (by omega) (by omega)) ?_
    rintro ⟨c, q3⟩ ⟨_, _, _, hq3⟩
    simp only at hq3 ⊢
    exact (deed_j0 hl _ _ _ _ hz0 (by omega) (by omega)).mono (fun r hr => ⟨hr.1, by omega, by omega⟩)
  · refine Tot.bind (term_draw hl people bs hb (by omega) (by omega) (by omega)) ?_
    rintro ⟨t, q3⟩ ⟨ht, hq3, hq4⟩
    simp only at ht hq3 hq4 ⊢
    refine Tot.bind (termText_tot people bs t (by have := hb.1; omega) hb.2 (by omega)) ?_
    rintro s ⟨hs, _⟩
    exact (deed_j0 hl _ _ _ _ hs (by omega) (by omega)).mono (fun r hr => ⟨hr.1, by omega, by omega⟩)
  · refine Tot.bind (pick_tot hl (by omega) (by omega) (by omega)) ?_
    rintro ⟨c, q3⟩ ⟨_, _, _, hq3⟩
    simp only at hq3 ⊢
    refine Tot.bind (pick_tot hl (by omega) (by omega) (by omega)) ?_
    rintro ⟨d, q4⟩ ⟨_, _, _, hq4⟩
    simp only at hq4 ⊢
    refine Tot.bind (pick_tot hl (by omega) (by omega) (by omega)) ?_
    rintro ⟨e, q5⟩ ⟨_, _, _, hq5⟩
    simp only at hq5 ⊢
    refine Tot.bind (term_draw hl people bs hb (by omega) (by omega) (by omega)) ?_
    rintro ⟨t, q6⟩ ⟨ht, hq6, hq7⟩
    simp only at ht hq6 hq7 ⊢
    refine Tot.bind (termText_tot people bs t (by have := hb.1; omega) hb.2 (by omega)) ?_
    rintro s ⟨hs, _⟩
    exact (deed_j0 hl _ _ _ _ hs (by omega) (by omega)).mono (fun r hr => ⟨hr.1, by omega, by omega⟩)
  · refine Tot.bind (pick_tot hl (by omega) (by omega) (by omega)) ?_
    rintro ⟨c, q3⟩ ⟨_, _, _, hq3⟩
    simp only at hq3 ⊢
    refine Tot.bind (pick_tot hl (by omega) (by omega) (by omega)) ?_
    rintro ⟨d, q4⟩ ⟨_, _, _, hq4⟩
    simp only at hq4 ⊢
    refine Tot.bind (pick_tot hl (by omega) (by omega) (by omega)) ?_
    rintro ⟨e, q5⟩ ⟨_, _, _, hq5⟩
    simp only at hq5 ⊢
    exact (deed_j0 hl _ _ _ _ hz0 (by omega) (by omega)).mono (fun r hr => ⟨hr.1, by omega, by omega⟩)
  · exact (deed_j0 hl _ _ _ _ hz0 (by omega) (by omega)).mono (fun r hr => ⟨hr.1, by omega, by omega⟩)
end Go.Proofs.YtnkfbappnpnaoaaDoor.Q
namespace Go.Proofs.YtnkfbappnpnaoaaDoor.Q
open Go.RowKit Go.Proofs.YtnkfbappnpnaoaaDoorW.PrintWords Go.Proofs.YtnkfbappnpnaoaaDoorW.PrintLast Go.Proofs.YtnkfbappnpnaoaaDoorW.PrintMore
attribute [local go_sem] max2_int min2_int max_two min_two max_three min_three max_four min_four   -- for this text's walks alone
set_option linter.unusedVariables false
set_option linter.unusedSimpArgs false
open Go.Lib in
structure Glob (w : World) : Prop where
  mx : ∃ m, w.cell? ⟨0, 0, none⟩ = some (.int .i64 m)
  tab : TabIs Tryd.prog w "internal/strconv.uint64pow10" .u64 pow10Tab
  es : ∃ te pe, w.cell? ⟨2, 0, none⟩ = some (.iface te pe)
  er : ∃ te pe, w.cell? ⟨3, 0, none⟩ = some (.iface te pe)
theorem gPow : Tryd.prog.globalNamed "internal/strconv.uint64pow10" = some 1 := by kernel_rfl
theorem cell_keeps {w w' : World} {a : Addr} {v : Value} (h : w.cell? a = some v) (hb : Below w.heap.size w w') : w'.cell? a = some v := (hb.cell (World.block_lt_of_cell? w a h)).trans h
theorem tab_keeps {w w' : World} {g : Nat} {n : String} {k : IntKind} {zs : List Int} (hg : Tryd.prog.globalNamed n = some g) (h : Lib.TabIs Tryd.prog w n k zs) (hb : Below w.heap.size w w') : Lib.TabIs Tryd.prog w' n k zs := by
  unfold Lib.TabIs World.var? at h ⊢
  simp only [hg, Option.bind_some] at h ⊢
  by_cases hlt : g < w.heap.size
  · rw [hb.block g hlt]
    exact h
  · rw [Array.getElem?_eq_none (by omega)] at h
    simp at h
theorem Glob.below {w w' : World} (h : Glob w) (hb : Below w.heap.size w w') : Glob w' := by
  obtain ⟨⟨m, hm⟩, ht, ⟨t1, p1, h1⟩, ⟨t2, p2, h2⟩⟩ := h
  exact ⟨⟨m, cell_keeps hm hb⟩, tab_keeps gPow ht hb, ⟨t1, p1, cell_keeps h1 hb⟩, ⟨t2, p2, cell_keeps h2 hb⟩⟩
end Go.Proofs.YtnkfbappnpnaoaaDoor.Q
namespace Go.Proofs.YtnkfbappnpnaoaaDoor.Q
open Go.RowKit Go.Proofs.YtnkfbappnpnaoaaDoorW.PrintWords Go.Proofs.YtnkfbappnpnaoaaDoorW.PrintLast Go.Proofs.YtnkfbappnpnaoaaDoorW.PrintMore
attribute [local go_sem] max2_int min2_int max_two min_two max_three min_three max_four min_four   -- for this text's walks alone
set_option linter.unusedVariables false
set_option linter.unusedSimpArgs false
def atoiNum (s : ByteArray) : Int × Bool := match Lib.atoiAll s.data.toList with
  | .ok v => (v, true)
  | _ => (if Lib.atoiAll s.data.toList = .range then Lib.atoiSat s.data.toList else 0, false)
def impl_readNumber.f (a0 : ByteArray) : Option (Int × Bool) :=
  if a0.size ≤ 281474976710656 then some ((atoiNum a0).1, (atoiNum a0).2 && (decide (0 ≤ (atoiNum a0).1) && (decide ((atoiNum a0).1 ≤ 999999) && (Lib.itoa (atoiNum a0).1 == a0.data.toList)))) else none
theorem grow_below (w : World) (k : Nat) (os : Array Obj) : Below w.heap.size w (Go.Sort.grow (w.drewN k) os) := by
  refine ⟨rfl, rfl, rfl, by simp [Go.Sort.grow], fun i hi => ?_⟩
  simp only [Go.Sort.grow]
  have h0 : (w.drewN k).heap = w.heap := rfl
  rw [h0, Array.getElem?_append_left hi]
theorem atoi_row (s : ByteArray) (w : World) (hs : s.size ≤ 281474976710656) (hG : Glob w) :
    Calls Tryd.prog 59 #[.string s] w fun e w' => ∃ ev, e = .returned (.tuple #[.int .i64 (atoiNum s).1, ev]) ∧ ((ev = .nilIface ∧ (atoiNum s).2 = true) ∨ ((∃ t p, ev = .iface t p) ∧ (atoiNum s).2 = false)) ∧ Below w.heap.size w w' := by
  cases hx : Lib.atoiAll s.data.toList
  · rename_i v
    have e1 : atoiNum s = (v, true) := by unfold atoiNum; rw [hx]
    rw [e1]
    refine (Any.strconv_Atoi_ok Tryd.laysC172 s (by omega) v hx w).mono ?_
    rintro e w' ⟨rfl, hw⟩
    refine ⟨_, rfl, .inl ⟨rfl, rfl⟩, ?_⟩
    rcases hw with rfl | ⟨t, rfl⟩
    · exact Below.refl _ _
    · exact bytes_below (Below.refl _ _) (Nat.le_refl _) _ _
  · have e1 : atoiNum s = (0, false) := by unfold atoiNum; rw [hx]; rfl
    rw [e1]
    obtain ⟨te, pe, hv⟩ := hG.es
    refine (Any.strconv_Atoi_syntax Tryd.laysC172 s hs hx _ w hv (.inr ⟨_, _, rfl⟩)).mono ?_
    rintro e w' ⟨N, rfl, _, _, hb⟩
    exact ⟨_, rfl, .inr ⟨⟨_, _, rfl⟩, rfl⟩, hb⟩
  · have e1 : atoiNum s = (Lib.atoiSat s.data.toList, false) := by unfold atoiNum; rw [hx]; rfl
    rw [e1]
    obtain ⟨te, pe, hv⟩ := hG.er
    refine (Any.strconv_Atoi_range Tryd.laysC172 s hs hx _ w hv (.inr ⟨_, _, rfl⟩)).mono ?_
    rintro e w' ⟨N, rfl, _, _, hb⟩
    exact ⟨_, rfl, .inr ⟨⟨_, _, rfl⟩, rfl⟩, hb⟩
theorem itoa_row (n : Int) (w : World) (h0 : 0 ≤ n) (h1 : n ≤ 999999) (hG : Glob w) :
    Calls Tryd.prog 45 #[.int .i64 n] w fun e w' => e = .returned (.string ⟨(Lib.itoa n).toArray⟩) ∧ Below w.heap.size w w' := by
  refine (Any.strconv_Itoa Tryd.laysM171 n (by omega) (by omega) w hG.tab).mono ?_
  rintro e w' ⟨rfl, k, os, rfl⟩
  exact ⟨rfl, grow_below w k os⟩
set_option maxHeartbeats 1000000 in
theorem impl_readNumber.calls (a0 : ByteArray) (r1 : Int) (r2 : Bool) (w : World) (hG : Glob w) (h : impl_readNumber.f a0 = some (r1, r2)) :
    Calls Tryd.prog 49 #[.string a0] w fun e w' => e = .returned (.tuple #[.int .i64 r1, .bool r2]) ∧ Below w.heap.size w w' := by
  unfold impl_readNumber.f at h
  split at h
  · rename_i hs
    simp only [Option.some.injEq, Prod.mk.injEq] at h
    obtain ⟨rfl, rfl⟩ := h
    have hA := atoi_row a0 w hs hG
    obtain ⟨n, hn⟩ : ∃ n, (atoiNum a0).1 = n := ⟨_, rfl⟩
    obtain ⟨b, hb⟩ : ∃ b, (atoiNum a0).2 = b := ⟨_, rfl⟩
    rw [hn, hb] at hA ⊢
    have HG := Aside0.mk hG
    clear hG hs hn hb
    cases b
    · have hA2 : Calls Tryd.prog 59 #[.string a0] w fun e w' => ∃ t p, e = .returned (.tuple #[.int .i64 n, .iface t p]) ∧ Aside0 (Below w.heap.size w w') := by
        refine hA.mono ?_
        rintro e w' ⟨ev, rfl, hev, hb⟩
        rcases hev with ⟨_, h⟩ | ⟨⟨t, p, rfl⟩, _⟩
        · simp at h
        · exact ⟨t, p, rfl, ⟨hb⟩⟩
      clear hA HG
      go_enter Tryd.func49, Tryd.ntmps49
      go_wp2_with (go_at_call 59; refine hA2.mono ?_; rintro e w1 ⟨t, p, rfl, hb⟩)
      go_ret2
      exact ⟨rfl, hb.out⟩
    · have hA2 : Calls Tryd.prog 59 #[.string a0] w fun e w' => e = .returned (.tuple #[.int .i64 n, .nilIface]) ∧ Aside0 (Below w.heap.size w w') := by
        refine hA.mono ?_
        rintro e w' ⟨ev, rfl, hev, hb⟩
        rcases hev with ⟨rfl, _⟩ | ⟨⟨t, p, rfl⟩, h⟩
        · exact ⟨rfl, ⟨hb⟩⟩
        · simp at h
      clear hA
      by_cases h0 : 0 ≤ n
      · have h0b : decide (0 ≤ n) = true := decide_eq_true h0
        by_cases h9 : n ≤ 999999
        · have h9b : decide (n ≤ 999999) = true := decide_eq_true h9
          rw [h0b, h9b]
          go_enter Tryd.func49, Tryd.ntmps49
          go_wp2_with (first | (go_at_call 59; refine hA2.mono ?_; rintro e w1 ⟨rfl, hb⟩) | (go_at_call 45; refine (itoa_row n _ h0 h9 (HG.out.below hb.out)).mono ?_; rintro e w2 ⟨rfl, hb2⟩; have hb3 := Aside0.mk (hb.out.trans (hb2.mono hb.out.size)); clear hb2))
          go_ret2
          exact ⟨by simp [Lib.toList_data], hb3.out⟩
        · have h9b : decide (n ≤ 999999) = false := decide_eq_false h9
          rw [h0b, h9b]
          clear h9
          go_enter Tryd.func49, Tryd.ntmps49
          go_wp2_with (go_at_call 59; refine hA2.mono ?_; rintro e w1 ⟨rfl, hb⟩)
          go_ret2
          exact ⟨rfl, hb.out⟩
      · have h0b : decide (0 ≤ n) = false := decide_eq_false h0
        rw [h0b]
        clear h0
        go_enter Tryd.func49, Tryd.ntmps49
        go_wp2_with (go_at_call 59; refine hA2.mono ?_; rintro e w1 ⟨rfl, hb⟩)
        go_ret2
        exact ⟨rfl, hb.out⟩
  · simp at h
end Go.Proofs.YtnkfbappnpnaoaaDoor.Q
namespace Go.Proofs.YtnkfbappnpnaoaaDoor.Q
open Go.RowKit Go.Proofs.YtnkfbappnpnaoaaDoorW.PrintWords Go.Proofs.YtnkfbappnpnaoaaDoorW.PrintLast Go.Proofs.YtnkfbappnpnaoaaDoorW.PrintMore
attribute [local go_sem] max2_int min2_int max_two min_two max_three min_three max_four min_four   -- for this text's walks alone
set_option linter.unusedVariables false
set_option linter.unusedSimpArgs false
theorem strings_Split.row (a0 a1 : ByteArray) (w : World) (hG : Glob w) (hs : a0.size < 4294967281) (h1 : 1 ≤ a1.size) :
    Calls Tryd.prog 47 #[.string a0, .string a1] w fun e w' =>
      e = .returned (.slice (some ⟨w.heap.size, 0, none⟩) (Lib.splitB a1 0 (Lib.countB a0 a1) a0).length (Lib.splitB a1 0 (Lib.countB a0 a1) a0).length) ∧ w' = w.alloc (.cells ((Lib.splitB a1 0 (Lib.countB a0 a1) a0).map Value.string).toArray 9) := by
  obtain ⟨m, hm⟩ := hG.mx
  have hlen := Lib.splitB_all a1 h1 0 _ a0 rfl
  refine (Any.strings_Split Tryd.lays146 (by kernel_rfl) a0 a1 m w hs hm h1).mono ?_
  rintro e w' ⟨rfl, rfl⟩
  exact ⟨by rw [hlen], rfl⟩
end Go.Proofs.YtnkfbappnpnaoaaDoor.Q
namespace Go.Proofs.YtnkfbappnpnaoaaDoor.Q
open Go.RowKit Go.Proofs.YtnkfbappnpnaoaaDoorW.PrintWords Go.Proofs.YtnkfbappnpnaoaaDoorW.PrintLast Go.Proofs.YtnkfbappnpnaoaaDoorW.PrintMore
attribute [local go_sem] max2_int min2_int max_two min_two max_three min_three max_four min_four   -- for this text's walks alone
set_option linter.unusedVariables false
set_option linter.unusedSimpArgs false
def slices_Index_string_string.l0 : Nat → List ByteArray → ByteArray → Int → Int → Option (Int)
  | 0, _, _, _, _ => none
  | k + 1, x0, x1, x7, x8 => if x8 < x7 then (if 0 ≤ x8 then (if x8 < (x0.length : Int) then (if x1.toList = (rdOf ByteArray.empty x0 x8).toList then (some x8) else (slices_Index_string_string.l0 k x0 x1 x7 (wrap64 (x8 + 1)))) else (none)) else (none)) else (some (-1))
def slices_Index_string_string.f (k : Nat) (l0 : List ByteArray) (a1 : ByteArray) : Option (Int) := slices_Index_string_string.l0 k l0 a1 (l0.length : Int) 0
set_option maxHeartbeats 8000000 in
set_option maxRecDepth 100000 in
theorem slices_Index_string_string.calls (k : Nat) (A0 : Option Addr) (c0 : Nat) (l0 : List ByteArray) (a1 : ByteArray) (r : Int) (w : World) (hr0 : Kd.C Kd.string w A0 l0.length l0) (hc0 : l0.length ≤ c0) (h : slices_Index_string_string.f k l0 a1 = some r) :
    Calls Tryd.prog 48 #[.slice A0 l0.length c0, .string a1] w fun e w' => e = .returned (.int .i64 r) ∧ Drawn0 w w' := by
 have HR0 := Aside0.mk hr0
 have HC0 := Aside0.mk hc0
 clear hr0 hc0
 have H : (slices_Index_string_string.l0 k l0 a1 (l0.length : Int) 0) = some r := h
 clear h
 have H' := Aside0.mk H
 clear H
 go_enter Tryd.func48, Tryd.ntmps48
 go_wp2
 go_loopg [8] k (fun kq v8 w' => ∃ (x8_1 : Int), v8 = .int .i64 x8_1 ∧ Aside0 (slices_Index_string_string.l0 kq l0 a1 (l0.length : Int) x8_1 = some r) ∧ Aside0 (kq ≤ k) ∧ Drawn0 w w')
 case atStart => exact ⟨(0), zcd_7, H', ⟨Nat.le_refl _⟩, zcd_26⟩
 case round =>(
 clear H'
 try clear p2
 obtain ⟨x8_1, rfl, HA, HK1, ⟨m1, rfl⟩⟩ := hrel
 cases gk with
 | zero => exact absurd HA.out (by simp [slices_Index_string_string.l0])
 | succ k1 =>(
 have H := HA.out
 clear HA
 simp only [slices_Index_string_string.l0] at H
 by_cases c3 : x8_1 < (l0.length : Int)
 {
 rw [if_pos c3] at H
 have c3b0 : decide (x8_1 < (l0.length : Int)) = true := decide_eq_true c3
 clear c3
 by_cases c4 : 0 ≤ x8_1
 {
 rw [if_pos c4] at H
 have c4b0 : decide (0 ≤ x8_1) = true := decide_eq_true c4
 clear c4
 by_cases c5 : x8_1 < (l0.length : Int)
 {
 rw [if_pos c5] at H
 have c5b0 : decide (x8_1 < (l0.length : Int)) = true := decide_eq_true c5
 clear c5
 by_cases c6 : a1.toList = (rdOf ByteArray.empty l0 x8_1).toList
 {
 rw [if_pos c6] at H
 have c6b0 : (a1.toList == (rdOf ByteArray.empty l0 x8_1).toList) = true := beq_iff_eq.mpr c6
 have c6b1 : (a1.toList != (rdOf ByteArray.empty l0 x8_1).toList) = false := bne_eq_false_iff_eq.mpr c6
 clear c6
 obtain rfl := Option.some.inj H
 have p629 : 0 ≤ (x8_1 : Int) := of_decide_eq_true zcd_2
 have q629 : x8_1 < (l0.length : Int) := of_decide_eq_true zcd_2
 obtain ⟨ad629, e629, hx629_0⟩ := Kd.at_string HR0.out x8_1 p629 q629
 cases e629
 replace p629 := eq_true p629
 replace q629 := eq_true q629
 go_wp2
 go_ret
 exact ⟨zcd_7, zcd_26⟩
 }
 {
 rw [if_neg c6] at H
 have c6b0 : (a1.toList == (rdOf ByteArray.empty l0 x8_1).toList) = false := beq_eq_false_iff_ne.mpr c6
 have c6b1 : (a1.toList != (rdOf ByteArray.empty l0 x8_1).toList) = true := bne_iff_ne.mpr c6
 have H' := Aside0.mk H
 clear H
 have p629 : 0 ≤ (x8_1 : Int) := of_decide_eq_true zcd_2
 have q629 : x8_1 < (l0.length : Int) := of_decide_eq_true zcd_2
 obtain ⟨ad629, e629, hx629_0⟩ := Kd.at_string HR0.out x8_1 p629 q629
 cases e629
 replace p629 := eq_true p629
 replace q629 := eq_true q629
 go_wp2
 go_roundg k1
 case measure => have := HK1.out; omega
 case rel => exact ⟨(wrap64 (x8_1 + 1)), zcd_7, H', ⟨by have := HK1.out; omega⟩, zcd_26⟩
 }
 }
 {
 rw [if_neg c5] at H
 exact absurd H (by simp)
 }
 }
 {
 rw [if_neg c4] at H
 exact absurd H (by simp)
 }
 }
 {
 rw [if_neg c3] at H
 have c3b0 : decide (x8_1 < (l0.length : Int)) = false := decide_eq_false c3
 clear c3
 obtain rfl := Option.some.inj H
 go_wp2
 go_ret
 exact ⟨zcd_7, zcd_26⟩
 }
 )
 )
end Go.Proofs.YtnkfbappnpnaoaaDoor.Q
namespace Go.Proofs.YtnkfbappnpnaoaaDoor.Q
open Go.RowKit Go.Proofs.YtnkfbappnpnaoaaDoorW.PrintWords Go.Proofs.YtnkfbappnpnaoaaDoorW.PrintLast Go.Proofs.YtnkfbappnpnaoaaDoorW.PrintMore
attribute [local go_sem] max2_int min2_int max_two min_two max_three min_three max_four min_four   -- for this text's walks alone
set_option linter.unusedVariables false
set_option linter.unusedSimpArgs false
def wordsOf (s : ByteArray) : List ByteArray := Lib.splitB ⟨#[32]⟩ 0 (Lib.countB s ⟨#[32]⟩) s
def kindsL : List ByteArray := [⟨#[98, 111, 100, 121]⟩, ⟨#[114, 117, 108, 101]⟩, ⟨#[97, 109, 101, 110, 100]⟩, ⟨#[100, 114, 111, 112]⟩, ⟨#[98, 97, 99, 107]⟩]
def countsL : List Int := [2, 2, 4, 3, 1]
def kindIdx (k : ByteArray) : Int := if k.toList = [98, 111, 100, 121] then 0 else if k.toList = [114, 117, 108, 101] then 1 else if k.toList = [97, 109, 101, 110, 100] then 2 else if k.toList = [100, 114, 111, 112] then 3 else if k.toList = [98, 97, 99, 107] then 4 else -1
theorem kindIdx_range (k : ByteArray) : -1 ≤ kindIdx k ∧ kindIdx k ≤ 4 := by
  unfold kindIdx
  repeat' split
  all_goals omega
theorem kindIdx_eq (k : ByteArray) : slices_Index_string_string.f 7 kindsL k = some (kindIdx k) := by
  unfold slices_Index_string_string.f kindIdx
  simp only [kindsL, slices_Index_string_string.l0, rdOf, show wrap64 (0 + 1) = 1 from w64 _ (by decide) (by decide), show wrap64 (1 + 1) = 2 from w64 _ (by decide) (by decide), show wrap64 (2 + 1) = 3 from w64 _ (by decide) (by decide), show wrap64 (3 + 1) = 4 from w64 _ (by decide) (by decide), show wrap64 (4 + 1) = 5 from w64 _ (by decide) (by decide)]
  simp only [List.length_cons, List.length_nil, List.getD_cons_zero, List.getD_cons_succ, Int.toNat_zero, Lib.toList_data, show Int.toNat 1 = 0 + 1 from rfl, show Int.toNat 2 = 1 + 1 from rfl, show Int.toNat 3 = 2 + 1 from rfl, show Int.toNat 4 = 3 + 1 from rfl]
  simp
  repeat' split
  all_goals rfl
def numLoop : List ByteArray → Nat → Int → Int → Option (Option (Int × Int))
  | [], _, a, b => some (some (a, b))
  | x :: xs, i, a, b => (impl_readNumber.f x).bind fun p => if p.2 = true then (if i = 0 then numLoop xs (i + 1) p.1 b else numLoop xs (i + 1) a p.1) else some none
def deedNone : Option (Int × Int × Int × ByteArray × Bool) := some (0, 0, 0, ⟨#[]⟩, false)
def deedFin (s : ByteArray) (k a b : Int) (z : ByteArray) : Option (Int × Int × Int × ByteArray × Bool) :=
  (impl_deedTextM.f k a b z).bind fun t => if t.toList = s.toList then some (k, a, b, z, true) else deedNone
def deedRest (s : ByteArray) (nums : List ByteArray) (k : Int) (z : ByteArray) : Option (Int × Int × Int × ByteArray × Bool) :=
  (numLoop nums 0 0 0).bind fun r => match r with
    | none => deedNone
    | some (a, b) => deedFin s k a b z
def deedOf (s : ByteArray) (ws : List ByteArray) : Option (Int × Int × Int × ByteArray × Bool) :=
  if kindIdx (ws.getD 0 ByteArray.empty) < 0 then deedNone
  else if (ws.length : Int) = countsL.getD (kindIdx (ws.getD 0 ByteArray.empty)).toNat 0 then
    (if kindIdx (ws.getD 0 ByteArray.empty) = 1 ∨ kindIdx (ws.getD 0 ByteArray.empty) = 2 then
      (if (ws.getD (ws.length - 1) ByteArray.empty).toList = [] then deedRest s (ws.drop 1) (kindIdx (ws.getD 0 ByteArray.empty)) ⟨#[]⟩
       else deedRest s ((ws.drop 1).dropLast) (kindIdx (ws.getD 0 ByteArray.empty)) (ws.getD (ws.length - 1) ByteArray.empty))
     else deedRest s (ws.drop 1) (kindIdx (ws.getD 0 ByteArray.empty)) ⟨#[]⟩)
  else deedNone
def impl_readDeed.f (a0 : ByteArray) : Option (Int × Int × Int × ByteArray × Bool) := if a0.size < 4294967281 then deedOf a0 (wordsOf a0) else none
theorem splitRow (a0 a1 : ByteArray) (w : World) (hG : Glob w) (hs : a0.size < 4294967281) (h1 : 1 ≤ a1.size) :
    Calls Tryd.prog 47 #[.string a0, .string a1] w fun e w' => ∃ g, e = .returned (.slice (some ⟨g, 0, none⟩) (Lib.splitB a1 0 (Lib.countB a0 a1) a0).length (Lib.splitB a1 0 (Lib.countB a0 a1) a0).length) ∧
      w'.heap[g]? = some (.cells ((Lib.splitB a1 0 (Lib.countB a0 a1) a0).map Value.string).toArray 9 (0, 0)) ∧ w.heap.size ≤ g ∧ Below w.heap.size w w' := by
  refine (strings_Split.row a0 a1 w hG hs h1).mono ?_
  rintro e w' ⟨rfl, rfl⟩
  exact ⟨_, rfl, heap_alloc_new w _, Nat.le_refl _, (Below.refl _ _).alloc (Nat.le_refl _) _⟩
theorem block_reads {w : World} {g : Nat} {xs : List ByteArray} {t : Nat} (h : w.heap[g]? = some (.cells (xs.map Value.string).toArray t (0, 0))) (hl : xs.length ≤ 9223372036854775807) : ReadsOf Value.string ByteArray.empty w (some ⟨g, 0, none⟩) xs.length xs := by
  refine ⟨rfl, hl, fun hn => ⟨_, rfl, fun j hj => ?_⟩⟩
  rw [show (⟨g, 0, none⟩ : Addr).add j = ⟨g, j, none⟩ by simp [Addr.add]; omega, blk_cell h j]
  simp [List.getElem?_eq_getElem hj, List.getD_eq_getElem?_getD]
theorem splitB_ne (a0 a1 : ByteArray) (h1 : 1 ≤ a1.size) : 0 < (Lib.splitB a1 0 (Lib.countB a0 a1) a0).length := by
  rw [Lib.splitB_all a1 h1 0 _ a0 rfl]
  omega
theorem idxRow (k0 : ByteArray) (w : World) (g c : Nat) (hb : w.heap[g]? = some (.cells (kindsL.map Value.string).toArray 9 (0, 0))) (hc : 5 ≤ c) :
    Calls Tryd.prog 48 #[.slice (some ⟨g, 0, none⟩) 5 c, .string k0] w fun e w' => e = .returned (.int .i64 (kindIdx k0)) ∧ Drawn0 w w' :=
  slices_Index_string_string.calls 7 (some ⟨g, 0, none⟩) c kindsL k0 _ w (Kd.C_of_reads (block_reads hb (by decide))) hc (kindIdx_eq k0)
set_option maxHeartbeats 4000000 in
set_option maxRecDepth 100000 in
theorem readDeed_neg (a0 : ByteArray) (w : World) (hG : Glob w) (hs : a0.size < 4294967281) (k0 : ByteArray) (hk : (wordsOf a0)[0]? = some k0) (hj : kindIdx k0 < 0) :
    Calls Tryd.prog 33 #[.string a0] w fun e w' => e = .returned (.tuple #[.agg #[.int .i64 0, .int .i64 0, .int .i64 0, .string ⟨#[]⟩], .bool false]) ∧ Below w.heap.size w w' := by
  have hS := fun w hG => splitRow a0 ⟨#[32]⟩ w hG hs (by decide)
  have hn := splitB_ne a0 ⟨#[32]⟩ (by decide)
  change ∀ w hG, Calls _ _ _ w fun e w' => ∃ g, e = .returned (.slice (some ⟨g, 0, none⟩) (wordsOf a0).length (wordsOf a0).length) ∧ w'.heap[g]? = some (.cells ((wordsOf a0).map Value.string).toArray 9 (0, 0)) ∧ w.heap.size ≤ g ∧ Below w.heap.size w w' at hS
  change 0 < (wordsOf a0).length at hn
  generalize wordsOf a0 = ws at hS hn hk
  have hI := idxRow k0
  obtain ⟨j, hjk⟩ : ∃ j, kindIdx k0 = j := ⟨_, rfl⟩
  rw [hjk] at hj hI
  have HG := Aside0.mk hG
  clear hG hjk hs
  go_enter Tryd.func33, Tryd.ntmps33
  go_wp2_with (first | (go_at_call 48; go_fit (hI _ _ _ (heap_alloc_old (heap_alloc_new _ _) _) (Nat.le_refl _)); rintro e w2 ⟨rfl, ⟨nd, rfl⟩⟩) | (go_at_call 47; refine (hS _ (HG.out.below ((Below.refl _ _).alloc (Nat.le_refl _) _))).mono ?_; rintro e w1 ⟨g, rfl, hb, hg, hB⟩; have hc00 : w1.cell? ⟨g, 0, none⟩ = some (.string k0) := (blk_cell hb 0).trans (by simp [hk]); have hc0 := fun o1 o2 => cell_alloc (cell_alloc hc00 o1) o2; clear hc00; have hR := (hB.block w.heap.size (by simp)).trans (heap_alloc_new w _); have hR2 := fun o1 o2 => heap_alloc_old (heap_alloc_old hR o1) o2; have r0 := fun o1 o2 => blk_cell (hR2 o1 o2) 0; have r1 := fun o1 o2 => blk_cell (hR2 o1 o2) 1; have r2 := fun o1 o2 => blk_cell (hR2 o1 o2) 2; have r3 := fun o1 o2 => blk_cell (hR2 o1 o2) 3; have f0 := fun o1 o2 => blk_frozen (hR2 o1 o2) 0; have f1 := fun o1 o2 => blk_frozen (hR2 o1 o2) 1; have f2 := fun o1 o2 => blk_frozen (hR2 o1 o2) 2; have f3 := fun o1 o2 => blk_frozen (hR2 o1 o2) 3; dsimp at r0 r1 r2 r3; replace hR2 := Aside0.mk hR2; have hBw := Aside0.mk (((Below.refl w.heap.size w).alloc (Nat.le_refl _) _).trans (hB.mono (by simp))); clear hR hB))
  refine bodyPost_ret (results_ct rfl _ _ w.heap.size 30 #[.int .i64 0, .int .i64 0, .int .i64 0, .string (⟨#[]⟩ : ByteArray)] (0, 0) _ rfl ?hblk Tryd.underlying30 rfl (by kernel_rfl)) rfl ?_
  case hblk =>
    refine blk_put (cs := #[.int .i64 0, .int .i64 0, .int .i64 0, .string (⟨#[]⟩ : ByteArray)]) ?_ 3 _ rfl
    refine blk_put (cs := #[.int .i64 0, .int .i64 0, .int .i64 0, .string (⟨#[]⟩ : ByteArray)]) ?_ 2 _ rfl
    refine blk_put (cs := #[.int .i64 0, .int .i64 0, .int .i64 0, .string (⟨#[]⟩ : ByteArray)]) ?_ 1 _ rfl
    refine blk_put (cs := #[.int .i64 0, .int .i64 0, .int .i64 0, .string (⟨#[]⟩ : ByteArray)]) ?_ 0 _ rfl
    exact blk_drewN (hR2.out _ _) _
  refine ⟨rfl, ?_⟩
  repeat (first | exact hBw.out | apply below_alloc | apply pw_below_drewN | refine below_set ?_ (Nat.le_refl _))
end Go.Proofs.YtnkfbappnpnaoaaDoor.Q
namespace Go.Proofs.YtnkfbappnpnaoaaDoor.Q
open Go.RowKit Go.Proofs.YtnkfbappnpnaoaaDoorW.PrintWords Go.Proofs.YtnkfbappnpnaoaaDoorW.PrintLast Go.Proofs.YtnkfbappnpnaoaaDoorW.PrintMore
attribute [local go_sem] max2_int min2_int max_two min_two max_three min_three max_four min_four   -- for this text's walks alone
set_option linter.unusedVariables false
set_option linter.unusedSimpArgs false
theorem words_join (ws : List (List UInt8)) (h : ws ≠ []) (hw : ∀ w ∈ ws, (32 : UInt8) ∉ w) (s : ByteArray) (hs : s.toList = joinL 32 ws) : wordsOf s = ws.map bs := splitB_join ws h hw s hs
end Go.Proofs.YtnkfbappnpnaoaaDoor.Q
