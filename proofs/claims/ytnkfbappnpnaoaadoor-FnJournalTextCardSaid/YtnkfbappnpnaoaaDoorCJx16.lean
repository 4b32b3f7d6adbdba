/- A part of this claim's proof: functions of the program as plain functions, with the proof that the code comes to their answers, and facts about them. Condition: none of its own. -/
import Derived.Deep.LoopGhost
import Derived.Lib.CutLaws
import Derived.Outline
import Derived.Shelf.Strings.Cut
import Derived.Test.YtnkfbappnpnaoaaDoorCJx1
import Derived.Test.YtnkfbappnpnaoaaDoorCJx7
import Derived.Test.YtnkfbappnpnaoaaDoorCJx11
import Derived.Test.YtnkfbappnpnaoaaDoorCJx13
import Derived.Test.YtnkfbappnpnaoaaDoorCJx14
import Derived.Test.YtnkfbappnpnaoaaDoorCJx15
import Derived.Test.YtnkfbappnpnaoaaDoorCJx12
import Derived.Test.YtnkfbappnpnaoaaDoorCJx3
import Derived.Test.YtnkfbappnpnaoaaDoorCJx5
import Derived.Test.YtnkfbappnpnaoaaDoorCJx4
import Derived.Test.YtnkfbappnpnaoaaDoorCJx6
import Derived.Test.YtnkfbappnpnaoaaDoorCJz
namespace Go.Proofs.YtnkfbappnpnaoaaDoor.Q
open Go.RowKit Go.Proofs.YtnkfbappnpnaoaaDoorW.PrintWords Go.Proofs.YtnkfbappnpnaoaaDoorW.PrintLast Go.Proofs.YtnkfbappnpnaoaaDoorW.PrintMore
attribute [local go_sem] max2_int min2_int max_two min_two max_three min_three max_four min_four   -- for this text's walks alone
set_option linter.unusedVariables false
set_option linter.unusedSimpArgs false
def Bd (b : Int) : Prop := 1 ≤ b ∧ b ≤ 127
theorem shl1 {p : Int} (h0 : 1 ≤ p) (h1 : p ≤ 6) : 2 ≤ shl .i64 1 p ∧ shl .i64 1 p ≤ 64 := by
  have h := shl_one ⟨p.toNat, by omega⟩
  have h3 : ∀ n : Fin 7, 1 ≤ n.val → 2 ≤ 2 ^ n.val ∧ 2 ^ n.val ≤ 64 := by decide
  have h2 := h3 ⟨p.toNat, by omega⟩ (by show 1 ≤ p.toNat; omega)
  simp only [show ((p.toNat : Nat) : Int) = p by omega] at h
  rw [h]
  simp only at h2
  omega
def Hs (r : Int × List Int × Int) : Prop := (1 ≤ r.1 ∧ r.1 ≤ 6) ∧ (1 ≤ r.2.1.length ∧ r.2.1.length ≤ 3) ∧ ∀ b ∈ r.2.1, Bd b
theorem house_draw_loop {l : List Int} (hl : Bytes l) (people : Int) (hp : 1 ≤ people ∧ people ≤ 6) : ∀ (n : Nat) (left p : Int) (bs : List Int), left = n → 0 ≤ p → p + 16 * n ≤ 900000000 → n ≤ 3 → 1 ≤ bs.length + n → bs.length + n ≤ 3 → (∀ b ∈ bs, Bd b) →
    Tot (fun k => spec_l20House.l0 k 0 left l p people bs) (fun r => Hs r ∧ p ≤ r.2.2 ∧ r.2.2 ≤ p + n)
  | 0, left, p, bs, hn, h0, h1, _, hb0, hb1, hbs => by
    refine Tot.unf ?_
    simp only [spec_l20House.l0]
    refine Tot.no (by omega) (Tot.bind (odd_tot hl h0 (by omega) (by omega)) ?_)
    rintro r ⟨_, _, hq2⟩
    obtain rfl := hq2 (by omega)
    exact Tot.no Bool.false_ne_true (Tot.pure ⟨⟨hp, ⟨by simpa using hb0, by simpa using hb1⟩, hbs⟩, Int.le_refl _, by simp⟩)
  | n + 1, left, p, bs, hn, h0, h1, hn3, hb0, hb1, hbs => by
    have hsh := shl1 hp.1 hp.2
    refine Tot.unf ?_
    simp only [spec_l20House.l0]
    rw [w64 _ (by omega) (by omega)]
    refine Tot.yes (by omega) (Tot.yes (by omega) (Tot.bind (pick_tot hl h0 (by omega) (by omega)) ?_))
    rintro ⟨b, q⟩ ⟨hb2, hb3, _, hq⟩
    simp only at hb2 hb3 hq ⊢
    have hb4 := hb3 (by omega)
    rw [w64 (left - 1) (by omega) (by omega), w64 (1 + b) (by omega) (by omega)]
    refine Tot.yes (by omega) ?_
    refine (house_draw_loop hl people hp n (left - 1) q (bs ++ [1 + b]) (by omega) (by omega) (by omega) (by omega) (by simp; omega) (by simp; omega) ?_).mono (fun r hr => ⟨hr.1, by omega, by omega⟩)
    intro x hx
    rcases List.mem_append.1 hx with hx | hx
    · exact hbs x hx
    · simp at hx
      subst hx
      exact ⟨by omega, by omega⟩
theorem house_draw {l : List Int} (hl : Bytes l) {p : Int} (h0 : 0 ≤ p) (h1 : p ≤ 800000000) : Tot (fun k => spec_l20House.f k l p 0) (fun r => Hs r ∧ p ≤ r.2.2 ∧ r.2.2 ≤ p + 6) := by
  unfold spec_l20House.f
  refine Tot.bind (pick_tot hl h0 (by omega) (by omega)) ?_
  rintro ⟨a, q⟩ ⟨a0, a1, _, hq⟩
  have a2 := a1 (by omega)
  simp only at a0 a2 hq ⊢
  refine Tot.bind (pick_tot hl (by omega) (by omega) (by omega)) ?_
  rintro ⟨b, q2⟩ ⟨b0, b1, _, hq2⟩
  have b2 := b1 (by omega)
  simp only at b0 b2 hq2 ⊢
  refine Tot.bind (pick_tot hl (by omega) (by omega) (by omega)) ?_
  rintro ⟨c, q3⟩ ⟨c0, c1, _, hq3⟩
  have c2 := c1 (by omega)
  simp only at c0 c2 hq3 ⊢
  rw [tdivn b0 (by omega), w64 (1 + c) (by omega) (by omega), w64 (1 + a) (by omega) (by omega), w64 (b / 8) (by omega) (by omega), w64 _ (by omega) (by omega)]
  refine (house_draw_loop hl (1 + a + b / 8) ⟨by omega, by omega⟩ (c + 1).toNat (1 + c) q3 [] (by omega) (by omega) (by omega) (by omega) (by simp; omega) (by simp; omega) (by simp)).mono (fun r hr => ⟨hr.1, by omega, by omega⟩)
def msum : List (List S77) → Nat
  | [] => 0
  | x :: r => x.length + msum r
theorem msum_app : ∀ a b : List (List S77), msum (a ++ b) = msum a + msum b
  | [], b => by simp [msum]
  | x :: r, b => by simp [msum, msum_app r b]; omega
theorem rdL_at {xs : List (List S77)} {i : Nat} (h : i < xs.length) : rd_L6 xs (i : Int) = xs[i] := by simp [rd_L6, List.getD_eq_getElem?_getD, h]
theorem msum_cut (xs : List (List S77)) (i : Nat) (h : i + 1 < xs.length) : msum xs = msum (xs.take i) + (xs[i]'(by omega)).length + xs[i + 1].length + msum (xs.drop (i + 2)) := by
  have e : xs = xs.take i ++ (xs[i]'(by omega) :: xs[i + 1] :: xs.drop (i + 2)) := by
    conv => lhs; rw [← List.take_append_drop i xs]
    rw [List.drop_eq_getElem_cons (show i < xs.length by omega), List.drop_eq_getElem_cons h]
  conv => lhs; rw [e, msum_app]
  simp only [msum]
  omega
theorem wr_1 (i : Nat) (h : i < 4294967296) : wrap64 ((i : Int) + 1) = ((i + 1 : Nat) : Int) := by rw [w64 _ (by omega) (by omega)]; omega
theorem wr_2 (i : Nat) (h : i < 4294967296) : wrap64 ((i : Int) + 2) = ((i + 2 : Nat) : Int) := by rw [w64 _ (by omega) (by omega)]; omega
set_option maxHeartbeats 1000000 in
theorem term_l1_step {l : List Int} (hl : Bytes l) (n : Nat) (xs : List (List S77)) (p : Int) (hn : xs.length = n + 2) (hm : msum xs + xs.length ≤ 8) (h0 : 0 ≤ p) (h1 : p ≤ 900000000) (P : List S77 × Int → Prop)
    (h : ∀ (ys : List (List S77)) (q : Int), ys.length = n + 1 → msum ys + ys.length ≤ 8 → q = p + 2 → Tot (fun k => spec_l20Term.l1 k ys l q) P) : Tot (fun k => spec_l20Term.l1 k xs l p) P := by
  refine Tot.unf ?_
  simp only [spec_l20Term.l1]
  have hm8 : xs.length ≤ 8 := by omega
  rw [w64 ((xs.length : Int) - 1) (by omega) (by omega)]
  refine Tot.yes (by omega) (Tot.bind (pick_tot hl h0 (by omega) (by omega)) ?_)
  rintro ⟨a, q⟩ ⟨a0, a1, _, hq⟩
  have a2 := a1 (by omega)
  simp only at a0 a2 hq
  subst hq
  clear a1
  obtain ⟨i, rfl⟩ : ∃ i : Nat, a = i := ⟨a.toNat, by omega⟩
  have hi : i + 1 < xs.length := by omega
  have hc := msum_cut xs i hi
  have hi1 : i < xs.length := Nat.lt_of_succ_lt hi
  have hi2 : i < 4294967296 := by omega
  have w1 := wr_1 i hi2
  have w2 := wr_2 i hi2
  have r1 : rd_L6 xs (i : Int) = xs[i] := rdL_at hi1
  have r2 : rd_L6 xs ((i + 1 : Nat) : Int) = xs[i + 1] := rdL_at hi
  simp only [w1, w2, r1, r2, Option.bind_some, List.nil_append, List.length_nil, Nat.zero_add, Int.toNat_natCast, List.length_append, List.length_take, List.length_drop, List.length_cons]
  clear w1 w2 r1 r2
  generalize xs[i] = A at hc ⊢
  generalize xs[i + 1] = B at hc ⊢
  have t1 : (xs.take i).length = i := by rw [List.length_take]; omega
  have t2 : (xs.drop (i + 2)).length = n - i := by rw [List.length_drop]; omega
  generalize xs.take i = X at hc t1 ⊢
  generalize xs.drop (i + 2) = Y at hc t2 ⊢
  refine Tot.yes (by omega) (Tot.yes (by omega) (Tot.yes (by omega) (Tot.yes (by omega) (Tot.yes (by omega) (Tot.yes (by omega) (Tot.bind (pick_tot hl (by omega) (by omega) (by omega)) ?_))))))
  rintro ⟨b, q2⟩ ⟨b0, b1, _, hq2⟩
  have b2 := b1 (by omega)
  simp only at b0 b2 hq2
  subst hq2
  clear b1
  refine Tot.yes (by omega) (Tot.yes (by omega) (Tot.yes (by omega) (Tot.yes (by omega) (Tot.yes (by omega) (Tot.yes (by omega) (Tot.yes (by omega) ?_))))))
  refine h _ _ ?_ ?_ (by omega)
  · simp only [List.length_append, List.length_cons, List.length_nil]
    omega
  · simp only [msum_app, msum, List.length_append, List.length_cons, List.length_nil]
    omega
theorem term_l1 {l : List Int} (hl : Bytes l) : ∀ (n : Nat) (xs : List (List S77)) (p : Int), xs.length = n + 1 → msum xs + xs.length ≤ 8 → 0 ≤ p → p + 16 * n ≤ 900000000 → Tot (fun k => spec_l20Term.l1 k xs l p) (fun r => r.1.length ≤ 7 ∧ p ≤ r.2 ∧ r.2 ≤ p + 2 * n)
  | 0, xs, p, hn, hm, h0, h1 => by
    refine Tot.unf ?_
    simp only [spec_l20Term.l1]
    refine Tot.no (by omega) (Tot.yes (by omega) (Tot.pure ⟨?_, Int.le_refl _, by simp⟩))
    match xs, hn, hm with
    | [x], _, hm =>
      simp [msum] at hm
      show x.length ≤ 7
      omega
  | n + 1, xs, p, hn, hm, h0, h1 => by
    refine term_l1_step hl n xs p hn hm h0 (by omega) _ (fun ys q h2 h3 h4 => ?_)
    exact (term_l1 hl n ys q h2 h3 (by omega) (by omega)).mono (fun r hr => ⟨hr.1, by omega, by omega⟩)
def Bodies (bs : List Int) : Prop := bs.length ≤ 1000000 ∧ ∀ b ∈ bs, b ≤ 9223372036854775807
theorem mx_le {a b c : Int} (h1 : a ≤ c) (h2 : b ≤ c) : mx a b ≤ c := by unfold mx; split <;> assumption
theorem mx_ge (a b : Int) : b ≤ mx a b := by unfold mx; split <;> omega
theorem term_l0 {l : List Int} (hl : Bytes l) (people : Int) (bs : List Int) (hb : Bodies bs) (hb1 : 1 ≤ bs.length) : ∀ (n : Nat) (xs : List (List S77)) (left p : Int), left = n → xs.length + n ≤ 4 → 1 ≤ xs.length + n → msum xs = xs.length → 0 ≤ p → p + 16 * n ≤ 880000000 →
    Tot (fun k => spec_l20Term.l0 k xs left l p people bs) (fun r => r.1.length ≤ 7 ∧ p ≤ r.2 ∧ r.2 ≤ p + 2 * n + 6)
  | 0, xs, left, p, hn, hx, hx1, hm, h0, h1 => by
    refine Tot.unf ?_
    simp only [spec_l20Term.l0]
    refine Tot.no (by omega) ?_
    exact (term_l1 hl (xs.length - 1) xs p (by omega) (by omega) h0 (by omega)).mono (fun r hr => ⟨hr.1, by omega, by omega⟩)
  | n + 1, xs, left, p, hn, hx, hx1, hm, h0, h1 => by
    have hbl := hb.1
    refine Tot.unf ?_
    simp only [spec_l20Term.l0]
    refine Tot.yes (by omega) (Tot.bind (pick_tot hl h0 (by omega) (by omega)) ?_)
    rintro ⟨a, q⟩ ⟨a0, a1, _, hq⟩
    have a2 := a1 (by omega)
    simp only at a0 a2 hq ⊢
    have hbm := hb.2 _ (rd_mem a0 a2)
    refine Tot.yes a0 (Tot.yes a2 (Tot.bind (Tot.ev (P := fun h => 0 ≤ h ∧ h ≤ 63) (heads_ev _ (mx_le hbm (by omega))) (headsN_bd _)) ?_))
    rintro h ⟨g0, g1⟩
    have m1 := mx_ge h 1
    have m2 : mx h 1 ≤ 63 := mx_le g1 (by omega)
    refine Tot.bind (pick_tot hl (by omega) (by omega) (by omega)) ?_
    rintro ⟨c, q2⟩ ⟨c0, c1, _, hq2⟩
    have c2 := c1 (by omega)
    simp only at c0 c2 hq2 ⊢
    refine Tot.yes (by omega) ?_
    rw [w64 (left - 1) (by omega) (by omega)]
    refine (term_l0 hl people bs hb hb1 n _ (left - 1) q2 (by omega) (by simp; omega) (by simp; omega) (by rw [msum_app]; simp [msum, hm]) (by omega) (by omega)).mono (fun r hr => ⟨hr.1, by omega, by omega⟩)
theorem term_draw {l : List Int} (hl : Bytes l) (people : Int) (bs : List Int) (hb : Bodies bs) {p n : Int} (h0 : 0 ≤ p) (h1 : p ≤ 800000000) (hn : n ≤ 1000000) : Tot (fun k => spec_l20Term.f k l p people bs n) (fun r => r.1.length ≤ 7 ∧ p ≤ r.2 ∧ r.2 ≤ p + 16) := by
  have hE : ∀ q : Int, 0 ≤ q → q ≤ 800000001 → Tot (fun k => spec_l20Term.j0 k true l q people bs) (fun r => r.1.length ≤ 7 ∧ q ≤ r.2 ∧ r.2 ≤ q + 1) := by
    intro q hq0 hq1
    refine Tot.unf ?_
    simp only [spec_l20Term.j0, if_true, Option.bind_some]
    refine Tot.bind (pick_tot hl hq0 (by omega) (by omega)) ?_
    rintro ⟨a, q2⟩ ⟨a0, a1, _, hq2⟩
    have a2 := a1 (by omega)
    simp only at a0 a2 hq2 ⊢
    refine Tot.yes a0 (Tot.yes (by simp; omega) (Tot.pure ⟨?_, by show q ≤ q2; omega, by show q2 ≤ q + 1; omega⟩))
    have : a = 0 ∨ a = 1 ∨ a = 2 ∨ a = 3 := by omega
    show (rd_L6 _ a).length ≤ 7
    rcases this with rfl | rfl | rfl | rfl <;> decide
  unfold spec_l20Term.f
  refine Tot.ite (fun _ => (hE p h0 (by omega)).mono (fun r hr => ⟨hr.1, hr.2.1, by omega⟩)) (fun hbl => Tot.bind (odd_tot hl h0 (by omega) (by omega)) ?_)
  rintro ⟨b, q⟩ ⟨hq0, hq1, _⟩
  simp only at hq0 hq1 ⊢
  cases b with
  | true => exact (hE q (by omega) (by omega)).mono (fun r hr => ⟨hr.1, by omega, by omega⟩)
  | false =>
    refine Tot.unf ?_
    simp only [spec_l20Term.j0]
    refine Tot.no Bool.false_ne_true (Tot.bind (pick_tot hl (by omega) (by omega) (by omega)) ?_)
    rintro ⟨a, q2⟩ ⟨a0, a1, _, hq2⟩
    have a2 := a1 (by omega)
    simp only at a0 a2 hq2 ⊢
    rw [w64 (1 + a) (by omega) (by omega)]
    refine (term_l0 hl people bs hb (by omega) (a + 1).toNat [] (1 + a) q2 (by omega) (by simp; omega) (by simp; omega) rfl (by omega) (by omega)).mono (fun r hr => ⟨hr.1, by omega, by omega⟩)
def Pl (r : Int × List Int × List ByteArray × Int) : Prop := (1 ≤ r.1 ∧ r.1 ≤ 6) ∧ (1 ≤ r.2.1.length ∧ r.2.1.length ≤ 3) ∧ (∀ b ∈ r.2.1, Bd b) ∧ (1 ≤ r.2.2.1.length ∧ r.2.2.1.length ≤ 3) ∧ ∀ s ∈ r.2.2.1, s.size ≤ 45
theorem bodies_of {bs : List Int} (h : bs.length ≤ 3) (hb : ∀ b ∈ bs, Bd b) : Bodies bs := ⟨by omega, fun b hm => by have := (hb b hm).2; omega⟩
theorem place_loop {l : List Int} (hl : Bytes l) (people : Int) (hp : 1 ≤ people ∧ people ≤ 6) (bs : List Int) (hb : 1 ≤ bs.length ∧ bs.length ≤ 3) (hbs : ∀ b ∈ bs, Bd b) : ∀ (n : Nat) (left p : Int) (rs : List ByteArray), left = n → 0 ≤ p → p + 16 * n ≤ 700000000 → n ≤ 3 → 1 ≤ rs.length + n → rs.length + n ≤ 3 → (∀ s ∈ rs, s.size ≤ 45) →
    Tot (fun k => spec_l20Place.l0 k 0 left l p people bs rs) (fun r => Pl r ∧ p ≤ r.2.2.2 ∧ r.2.2.2 ≤ p + 16 * n)
  | 0, left, p, rs, hn, h0, h1, _, hr0, hr1, hrs => by
    refine Tot.unf ?_
    simp only [spec_l20Place.l0]
    refine Tot.no (by omega) (Tot.bind (odd_tot hl h0 (by omega) (by omega)) ?_)
    rintro r ⟨_, _, hq2⟩
    obtain rfl := hq2 (by omega)
    exact Tot.no Bool.false_ne_true (Tot.pure ⟨⟨hp, hb, hbs, ⟨by simpa using hr0, by simpa using hr1⟩, hrs⟩, Int.le_refl _, by simp⟩)
  | n + 1, left, p, rs, hn, h0, h1, hn3, hr0, hr1, hrs => by
    have hB := bodies_of hb.2 hbs
    refine Tot.unf ?_
    simp only [spec_l20Place.l0]
    refine Tot.yes (by omega) (Tot.bind (term_draw hl people bs hB h0 (by omega) (by omega)) ?_)
    rintro ⟨t, q⟩ ⟨ht, hq0, hq1⟩
    simp only at ht hq0 hq1 ⊢
    refine Tot.bind (termText_tot people bs t (by omega) hB.2 (by omega)) ?_
    rintro s ⟨hs, _⟩
    refine Tot.yes (by omega) ?_
    rw [w64 (left - 1) (by omega) (by omega)]
    refine (place_loop hl people hp bs hb hbs n (left - 1) q (rs ++ [s]) (by omega) (by omega) (by omega) (by omega) (by simp; omega) (by simp; omega) ?_).mono (fun r hr => ⟨hr.1, by omega, by omega⟩)
    intro x hx
    rcases List.mem_append.1 hx with hx | hx
    · exact hrs x hx
    · simp at hx
      subst hx
      exact hs
theorem place_draw {l : List Int} (hl : Bytes l) {p : Int} (h0 : 0 ≤ p) (h1 : p ≤ 600000000) : Tot (fun k => spec_l20Place.f k l p 0) (fun r => Pl r ∧ p ≤ r.2.2.2 ∧ r.2.2.2 ≤ p + 60) := by
  unfold spec_l20Place.f
  refine Tot.bind (house_draw hl h0 (by omega)) ?_
  rintro ⟨people, bs, q⟩ ⟨⟨hp, hb, hbs⟩, hq0, hq1⟩
  simp only at hp hb hbs hq0 hq1 ⊢
  refine Tot.bind (pick_tot hl (by omega) (by omega) (by omega)) ?_
  rintro ⟨a, q2⟩ ⟨a0, a1, _, hq2⟩
  have a2 := a1 (by omega)
  simp only at a0 a2 hq2 ⊢
  rw [w64 (1 + a) (by omega) (by omega)]
  exact (place_loop hl people hp bs hb hbs (a + 1).toNat (1 + a) q2 [] (by omega) (by omega) (by omega) (by omega) (by simp; omega) (by simp; omega) (by simp)).mono (fun r hr => ⟨hr.1, by omega, by omega⟩)
theorem pow_mn (x : Int) : 2 ≤ (2 : Int) ^ (mn (mx x 1) 6).toNat ∧ (2 : Int) ^ (mn (mx x 1) 6).toNat ≤ 64 := by
  have h : 1 ≤ mn (mx x 1) 6 ∧ mn (mx x 1) 6 ≤ 6 := by
    have := mx_ge x 1
    unfold mn
    split <;> omega
  generalize mn (mx x 1) 6 = y at h
  have : ∀ n : Fin 7, 1 ≤ n.val → 2 ≤ (2 : Int) ^ n.val ∧ (2 : Int) ^ n.val ≤ 64 := by decide
  exact this ⟨y.toNat, by omega⟩ (by show 1 ≤ y.toNat; omega)
def Dd (p : Int) (r : Int × Int × Int × ByteArray × Int) : Prop := r.2.2.2.1.size ≤ 45 ∧ p ≤ r.2.2.2.2 ∧ r.2.2.2.2 ≤ p + 40
theorem deed_j0 {l : List Int} (hl : Bytes l) (k0 a b : Int) (z : ByteArray) (hz : z.size ≤ 45) {p : Int} (h0 : 0 ≤ p) (h1 : p ≤ 700000000) : Tot (fun k => spec_l20Deed.j0 k l p k0 a b z) (fun r => r.2.2.2.1.size ≤ 45 ∧ p ≤ r.2.2.2.2 ∧ r.2.2.2.2 ≤ p + 4) := by
  refine Tot.unf ?_
  simp only [spec_l20Deed.j0]
  refine Tot.bind (odd_tot hl h0 (by omega) (by omega)) ?_
  rintro ⟨o, q⟩ ⟨hq0, hq1, _⟩
  simp only at hq0 hq1 ⊢
  refine Tot.ite (fun _ => ?_) (fun _ => Tot.pure ⟨hz, hq0, by show q ≤ p + 4; omega⟩)
  refine Tot.bind (pick_tot hl (by omega) (by omega) (by omega)) ?_
  rintro ⟨c, q2⟩ ⟨c0, c1, _, hq2⟩
  have c2 := c1 (by omega)
  simp only at c0 c2 hq2 ⊢
  refine Tot.ite (fun _ => ?_) (fun _ => Tot.ite (fun _ => ?_) (fun _ => Tot.pure ⟨hz, by show p ≤ q2; omega, by show q2 ≤ p + 4; omega⟩))
  · simp only [Option.bind_some]
    refine Tot.bind (pick_tot hl (by omega) (by omega) (by omega)) ?_
    rintro ⟨d, q3⟩ ⟨d0, d1, _, hq3⟩
    have d2 := d1 (by omega)
    simp only at d0 d2 hq3 ⊢
    exact Tot.yes d0 (Tot.yes (by simp; omega) (Tot.pure ⟨hz, by show p ≤ q3; omega, by show q3 ≤ p + 4; omega⟩))
  · simp only [Option.bind_some]
    refine Tot.bind (pick_tot hl (by omega) (by omega) (by omega)) ?_
    rintro ⟨d, q3⟩ ⟨d0, d1, _, hq3⟩
    have d2 := d1 (by omega)
    simp only at d0 d2 hq3 ⊢
    refine Tot.yes d0 (Tot.yes (by simp; omega) (Tot.pure ⟨?_, by show p ≤ q3; omega, by show q3 ≤ p + 4; omega⟩))
    have : d = 0 ∨ d = 1 ∨ d = 2 := by omega
    show (rdOf ByteArray.empty [(⟨#[40, 65, 49, 41]⟩ : ByteArray), (⟨#[97, 32, 98]⟩ : ByteArray), (⟨#[]⟩ : ByteArray)] d).size ≤ 45
    rcases this with rfl | rfl | rfl <;> decide
theorem deed_draw {l : List Int} (hl : Bytes l) (people : Int) (bs : List Int) (rs : List ByteArray) (hb : Bodies bs) (hr : rs.length ≤ 1000000) {p : Int} (h0 : 0 ≤ p) (h1 : p ≤ 600000000) : Tot (fun k => spec_l20Deed.f k l p people bs rs) (Dd p) := by
  have hw := pow_mn people
  have hlr := mx_le (a := (rs.length : Int)) (b := 1) (c := 1000000) (by omega) (by omega)
  have hz0 : (⟨#[]⟩ : ByteArray).size ≤ 45 := by decide
  unfold spec_l20Deed.f
  generalize (2 : Int) ^ (mn (mx people 1) 6).toNat = W at hw
  generalize mx (rs.length : Int) 1 = M at hlr
  simp only [Option.bind_some]
  rw [w64 W (by omega) (by omega), w64 (W - 1) (by omega) (by omega)]
  refine Tot.bind (pick_tot hl h0 (by omega) (by omega)) ?_
  rintro ⟨a, q⟩ ⟨a0, a1, _, hq⟩
  have a2 := a1 (by omega)
  simp only at a0 a2 hq ⊢
  refine Tot.yes a0 (Tot.yes (by simp; omega) (Tot.bind (pick_tot hl (by omega) (by omega) (by omega)) ?_))
  rintro ⟨b, q2⟩ ⟨b0, b1, _, hq2⟩
  have b2 := b1 (by omega)
  simp only at b0 b2 hq2 ⊢
  generalize wrap64 (rd [0, 1, 2, 2, 2, 2, 3, 4] a + wrap64 (wrap64 (Int.tdiv b 59) * 5)) = K
  refine Tot.ite (fun _ => ?_) (fun _ => Tot.ite (fun _ => ?_) (fun _ => Tot.ite (fun _ => ?_) (fun _ => Tot.ite (fun _ => ?_) (fun _ => ?_))))
  · refine Tot.bind (pick_tot hl (by omega) (by omega) (by omega)) ?_
    rintro ⟨c, q3⟩ ⟨_, _, _, hq3⟩
    simp only at hq3 ⊢
    exact (deed_j0 hl _ _ _ _ hz0 (by omega) (by omega)).mono (fun r hr => ⟨hr.1, by omega, by omega⟩)
  · refine Tot.bind (term_draw hl people bs hb (by omega) (by omega) (by omega)) ?_
    rintro ⟨t, q3⟩ ⟨ht, hq3, hq4⟩
    simp only at ht hq3 hq4 ⊢
    refine Tot.bind (termText_tot people bs t (by have := hb.1; omega) hb.2 (by omega)) ?_
    rintro s ⟨hs, _⟩
    exact (deed_j0 hl _ _ _ _ hs (by omega) (by omega)).mono (fun r hr => ⟨hr.1, by omega, by omega⟩)
  · refine Tot.bind (pick_tot hl (by omega) (by omega) (by omega)) ?_
    rintro ⟨c, q3⟩ ⟨_, _, _, hq3⟩
    simp only at hq3 ⊢
    refine Tot.bind (pick_tot hl (by omega) (by omega) (by omega)) ?_
    rintro ⟨d, q4⟩ ⟨_, _, _, hq4⟩
    simp only at hq4 ⊢
    refine Tot.bind (pick_tot hl (by omega) (by omega) (by omega)) ?_
    rintro ⟨e, q5⟩ ⟨_, _, _, hq5⟩
    simp only at hq5 ⊢
    refine Tot.bind (term_draw hl people bs hb (by omega) (by omega) (by omega)) ?_
    rintro ⟨t, q6⟩ ⟨ht, hq6, hq7⟩
    simp only at ht hq6 hq7 ⊢
    refine Tot.bind (termText_tot people bs t (by have := hb.1; omega) hb.2 (by omega)) ?_
    rintro s ⟨hs, _⟩
    exact (deed_j0 hl _ _ _ _ hs (by omega) (by omega)).mono (fun r hr => ⟨hr.1, by omega, by omega⟩)
  · refine Tot.bind (pick_tot hl (by omega) (by omega) (by omega)) ?_
    rintro ⟨c, q3⟩ ⟨_, _, _, hq3⟩
    simp only at hq3 ⊢
    refine Tot.bind (pick_tot hl (by omega) (by omega) (by omega)) ?_
    rintro ⟨d, q4⟩ ⟨_, _, _, hq4⟩
    simp only at hq4 ⊢
    refine Tot.bind (pick_tot hl (by omega) (by omega) (by omega)) ?_
    rintro ⟨e, q5⟩ ⟨_, _, _, hq5⟩
    simp only at hq5 ⊢
    exact (deed_j0 hl _ _ _ _ hz0 (by omega) (by omega)).mono (fun r hr => ⟨hr.1, by omega, by omega⟩)
  · exact (deed_j0 hl _ _ _ _ hz0 (by omega) (by omega)).mono (fun r hr => ⟨hr.1, by omega, by omega⟩)
end Go.Proofs.YtnkfbappnpnaoaaDoor.Q
namespace Go.Proofs.YtnkfbappnpnaoaaDoor.Q
open Go.RowKit Go.Proofs.YtnkfbappnpnaoaaDoorW.PrintWords Go.Proofs.YtnkfbappnpnaoaaDoorW.PrintLast Go.Proofs.YtnkfbappnpnaoaaDoorW.PrintMore
attribute [local go_sem] max2_int min2_int max_two min_two max_three min_three max_four min_four   -- for this text's walks alone
set_option linter.unusedVariables false
set_option linter.unusedSimpArgs false
theorem toList_len (s : ByteArray) : s.toList.length = s.size := by rw [Lib.toList_data]; rfl
theorem ext_toList (s : ByteArray) (a b : Nat) : (s.extract a b).toList = (s.toList.take b).drop a := by
  rw [Lib.toList_data, Lib.toList_data, ByteArray.data_extract, Array.toList_extract]
  simp [List.extract, List.drop_take]
theorem ext_end (s : ByteArray) (a : Nat) : (s.extract a s.size).toList = s.toList.drop a := by
  rw [ext_toList, List.take_of_length_le (by rw [toList_len]; exact Nat.le_refl _)]
theorem words_join (ws : List (List UInt8)) (h : ws ≠ []) (hw : ∀ w ∈ ws, (32 : UInt8) ∉ w) (s : ByteArray) (hs : s.toList = joinL 32 ws) : wordsOf s = ws.map bs := splitB_join ws h hw s hs
theorem splitB_size (sep : ByteArray) : ∀ (k : Nat) (s : ByteArray), ∀ w ∈ Lib.splitB sep 0 k s, w.size ≤ s.size
  | 0, s, w, h => by
    simp [Lib.splitB] at h
    subst h
    exact Nat.le_refl _
  | k + 1, s, w, h => by
    unfold Lib.splitB at h
    split at h
    · simp at h
      subst h
      exact Nat.le_refl _
    · rcases List.mem_cons.1 h with rfl | h
      · rw [ByteArray.size_extract]; omega
      · have := splitB_size sep k _ w h
        rw [ByteArray.size_extract] at this
        omega
theorem words_size (s w : ByteArray) (h : w ∈ wordsOf s) : w.size ≤ s.size := splitB_size _ _ _ _ h
end Go.Proofs.YtnkfbappnpnaoaaDoor.Q
namespace Go.Proofs.YtnkfbappnpnaoaaDoor.Q
open Go.RowKit Go.Proofs.YtnkfbappnpnaoaaDoorW.PrintWords Go.Proofs.YtnkfbappnpnaoaaDoorW.PrintLast Go.Proofs.YtnkfbappnpnaoaaDoorW.PrintMore
attribute [local go_sem] max2_int min2_int max_two min_two max_three min_three max_four min_four   -- for this text's walks alone
set_option linter.unusedVariables false
set_option linter.unusedSimpArgs false
set_option maxHeartbeats 4000000 in
set_option maxRecDepth 100000 in
theorem readDeed_len0 (a0 : ByteArray) (w : World) (hG : Glob w) (hs : a0.size < 4294967281) (k0 : ByteArray) (hk : (wordsOf a0)[0]? = some k0) (hj : kindIdx k0 = 0) (hl : ((wordsOf a0).length : Int) ≠ 2) :
    Calls Tryd.prog 33 #[.string a0] w fun e w' => e = .returned (.tuple #[.agg #[.int .i64 0, .int .i64 0, .int .i64 0, .string ⟨#[]⟩], .bool false]) ∧ Below w.heap.size w w' := by
  have hS := fun w hG => splitRow a0 ⟨#[32]⟩ w hG hs (by decide)
  have hn := splitB_ne a0 ⟨#[32]⟩ (by decide)
  change ∀ w hG, Calls _ _ _ w fun e w' => ∃ g, e = .returned (.slice (some ⟨g, 0, none⟩) (wordsOf a0).length (wordsOf a0).length) ∧ w'.heap[g]? = some (.cells ((wordsOf a0).map Value.string).toArray 9 (0, 0)) ∧ w.heap.size ≤ g ∧ Below w.heap.size w w' at hS
  change 0 < (wordsOf a0).length at hn
  generalize wordsOf a0 = ws at hS hn hk hl
  replace hl : (((ws.length : Nat) : Int) == 2) = false := beq_eq_false_iff_ne.2 hl
  have hI := idxRow k0
  rw [hj] at hI
  have HG := Aside0.mk hG
  clear hG hj hs
  go_enter Tryd.func33, Tryd.ntmps33
  go_wp2_with (first | (go_at_call 48; refine (hI _ _ _ (heap_alloc_old (heap_alloc_new _ _) _) (Nat.le_refl _)).mono ?_; rintro e w2 ⟨rfl, ⟨nd, rfl⟩⟩) | (go_at_call 47; refine (hS _ (HG.out.below ((Below.refl _ _).alloc (Nat.le_refl _) _))).mono ?_; rintro e w1 ⟨g, rfl, hb, hg, hB⟩; have hc00 : w1.cell? ⟨g, 0, none⟩ = some (.string k0) := (blk_cell hb 0).trans (by simp [hk]); have hc0 := fun o1 o2 => cell_alloc (cell_alloc hc00 o1) o2; clear hc00; have hR := (hB.block w.heap.size (by simp)).trans (heap_alloc_new w _); have hR2 := fun o1 o2 => heap_alloc_old (heap_alloc_old hR o1) o2; have r0 := fun o1 o2 => blk_cell (hR2 o1 o2) 0; have r1 := fun o1 o2 => blk_cell (hR2 o1 o2) 1; have r2 := fun o1 o2 => blk_cell (hR2 o1 o2) 2; have r3 := fun o1 o2 => blk_cell (hR2 o1 o2) 3; have f0 := fun o1 o2 => blk_frozen (hR2 o1 o2) 0; have f1 := fun o1 o2 => blk_frozen (hR2 o1 o2) 1; have f2 := fun o1 o2 => blk_frozen (hR2 o1 o2) 2; have f3 := fun o1 o2 => blk_frozen (hR2 o1 o2) 3; dsimp at r0 r1 r2 r3; replace hR2 := Aside0.mk hR2; have hBw := Aside0.mk (((Below.refl w.heap.size w).alloc (Nat.le_refl _) _).trans (hB.mono (by simp))); clear hR hB))
  refine bodyPost_ret (results_ct rfl _ _ w.heap.size 30 #[.int .i64 0, .int .i64 0, .int .i64 0, .string (⟨#[]⟩ : ByteArray)] (0, 0) _ rfl ?hblk Tryd.underlying30 rfl (by kernel_rfl)) rfl ?_
  case hblk =>
    refine blk_put (cs := #[.int .i64 0, .int .i64 0, .int .i64 0, .string (⟨#[]⟩ : ByteArray)]) ?_ 3 _ rfl
    refine blk_put (cs := #[.int .i64 0, .int .i64 0, .int .i64 0, .string (⟨#[]⟩ : ByteArray)]) ?_ 2 _ rfl
    refine blk_put (cs := #[.int .i64 0, .int .i64 0, .int .i64 0, .string (⟨#[]⟩ : ByteArray)]) ?_ 1 _ rfl
    refine blk_put (cs := #[.int .i64 0, .int .i64 0, .int .i64 0, .string (⟨#[]⟩ : ByteArray)]) ?_ 0 _ rfl
    exact blk_drewN (hR2.out _ _) _
  refine ⟨rfl, ?_⟩
  repeat (first | exact hBw.out | apply below_alloc | apply pw_below_drewN | refine below_set ?_ (Nat.le_refl _))
set_option maxHeartbeats 4000000 in
set_option maxRecDepth 100000 in
theorem readDeed_len1 (a0 : ByteArray) (w : World) (hG : Glob w) (hs : a0.size < 4294967281) (k0 : ByteArray) (hk : (wordsOf a0)[0]? = some k0) (hj : kindIdx k0 = 1) (hl : ((wordsOf a0).length : Int) ≠ 2) :
    Calls Tryd.prog 33 #[.string a0] w fun e w' => e = .returned (.tuple #[.agg #[.int .i64 0, .int .i64 0, .int .i64 0, .string ⟨#[]⟩], .bool false]) ∧ Below w.heap.size w w' := by
  have hS := fun w hG => splitRow a0 ⟨#[32]⟩ w hG hs (by decide)
  have hn := splitB_ne a0 ⟨#[32]⟩ (by decide)
  change ∀ w hG, Calls _ _ _ w fun e w' => ∃ g, e = .returned (.slice (some ⟨g, 0, none⟩) (wordsOf a0).length (wordsOf a0).length) ∧ w'.heap[g]? = some (.cells ((wordsOf a0).map Value.string).toArray 9 (0, 0)) ∧ w.heap.size ≤ g ∧ Below w.heap.size w w' at hS
  change 0 < (wordsOf a0).length at hn
  generalize wordsOf a0 = ws at hS hn hk hl
  replace hl : (((ws.length : Nat) : Int) == 2) = false := beq_eq_false_iff_ne.2 hl
  have hI := idxRow k0
  rw [hj] at hI
  have HG := Aside0.mk hG
  clear hG hj hs
  go_enter Tryd.func33, Tryd.ntmps33
  go_wp2_with (first | (go_at_call 48; refine (hI _ _ _ (heap_alloc_old (heap_alloc_new _ _) _) (Nat.le_refl _)).mono ?_; rintro e w2 ⟨rfl, ⟨nd, rfl⟩⟩) | (go_at_call 47; refine (hS _ (HG.out.below ((Below.refl _ _).alloc (Nat.le_refl _) _))).mono ?_; rintro e w1 ⟨g, rfl, hb, hg, hB⟩; have hc00 : w1.cell? ⟨g, 0, none⟩ = some (.string k0) := (blk_cell hb 0).trans (by simp [hk]); have hc0 := fun o1 o2 => cell_alloc (cell_alloc hc00 o1) o2; clear hc00; have hR := (hB.block w.heap.size (by simp)).trans (heap_alloc_new w _); have hR2 := fun o1 o2 => heap_alloc_old (heap_alloc_old hR o1) o2; have r0 := fun o1 o2 => blk_cell (hR2 o1 o2) 0; have r1 := fun o1 o2 => blk_cell (hR2 o1 o2) 1; have r2 := fun o1 o2 => blk_cell (hR2 o1 o2) 2; have r3 := fun o1 o2 => blk_cell (hR2 o1 o2) 3; have f0 := fun o1 o2 => blk_frozen (hR2 o1 o2) 0; have f1 := fun o1 o2 => blk_frozen (hR2 o1 o2) 1; have f2 := fun o1 o2 => blk_frozen (hR2 o1 o2) 2; have f3 := fun o1 o2 => blk_frozen (hR2 o1 o2) 3; dsimp at r0 r1 r2 r3; replace hR2 := Aside0.mk hR2; have hBw := Aside0.mk (((Below.refl w.heap.size w).alloc (Nat.le_refl _) _).trans (hB.mono (by simp))); clear hR hB))
  refine bodyPost_ret (results_ct rfl _ _ w.heap.size 30 #[.int .i64 0, .int .i64 0, .int .i64 0, .string (⟨#[]⟩ : ByteArray)] (0, 0) _ rfl ?hblk Tryd.underlying30 rfl (by kernel_rfl)) rfl ?_
  case hblk =>
    refine blk_put (cs := #[.int .i64 0, .int .i64 0, .int .i64 0, .string (⟨#[]⟩ : ByteArray)]) ?_ 3 _ rfl
    refine blk_put (cs := #[.int .i64 0, .int .i64 0, .int .i64 0, .string (⟨#[]⟩ : ByteArray)]) ?_ 2 _ rfl
    refine blk_put (cs := #[.int .i64 0, .int .i64 0, .int .i64 0, .string (⟨#[]⟩ : ByteArray)]) ?_ 1 _ rfl
    refine blk_put (cs := #[.int .i64 0, .int .i64 0, .int .i64 0, .string (⟨#[]⟩ : ByteArray)]) ?_ 0 _ rfl
    exact blk_drewN (hR2.out _ _) _
  refine ⟨rfl, ?_⟩
  repeat (first | exact hBw.out | apply below_alloc | apply pw_below_drewN | refine below_set ?_ (Nat.le_refl _))
set_option maxHeartbeats 4000000 in
set_option maxRecDepth 100000 in
theorem readDeed_len2 (a0 : ByteArray) (w : World) (hG : Glob w) (hs : a0.size < 4294967281) (k0 : ByteArray) (hk : (wordsOf a0)[0]? = some k0) (hj : kindIdx k0 = 2) (hl : ((wordsOf a0).length : Int) ≠ 4) :
    Calls Tryd.prog 33 #[.string a0] w fun e w' => e = .returned (.tuple #[.agg #[.int .i64 0, .int .i64 0, .int .i64 0, .string ⟨#[]⟩], .bool false]) ∧ Below w.heap.size w w' := by
  have hS := fun w hG => splitRow a0 ⟨#[32]⟩ w hG hs (by decide)
  have hn := splitB_ne a0 ⟨#[32]⟩ (by decide)
  change ∀ w hG, Calls _ _ _ w fun e w' => ∃ g, e = .returned (.slice (some ⟨g, 0, none⟩) (wordsOf a0).length (wordsOf a0).length) ∧ w'.heap[g]? = some (.cells ((wordsOf a0).map Value.string).toArray 9 (0, 0)) ∧ w.heap.size ≤ g ∧ Below w.heap.size w w' at hS
  change 0 < (wordsOf a0).length at hn
  generalize wordsOf a0 = ws at hS hn hk hl
  replace hl : (((ws.length : Nat) : Int) == 4) = false := beq_eq_false_iff_ne.2 hl
  have hI := idxRow k0
  rw [hj] at hI
  have HG := Aside0.mk hG
  clear hG hj hs
  go_enter Tryd.func33, Tryd.ntmps33
  go_wp2_with (first | (go_at_call 48; refine (hI _ _ _ (heap_alloc_old (heap_alloc_new _ _) _) (Nat.le_refl _)).mono ?_; rintro e w2 ⟨rfl, ⟨nd, rfl⟩⟩) | (go_at_call 47; refine (hS _ (HG.out.below ((Below.refl _ _).alloc (Nat.le_refl _) _))).mono ?_; rintro e w1 ⟨g, rfl, hb, hg, hB⟩; have hc00 : w1.cell? ⟨g, 0, none⟩ = some (.string k0) := (blk_cell hb 0).trans (by simp [hk]); have hc0 := fun o1 o2 => cell_alloc (cell_alloc hc00 o1) o2; clear hc00; have hR := (hB.block w.heap.size (by simp)).trans (heap_alloc_new w _); have hR2 := fun o1 o2 => heap_alloc_old (heap_alloc_old hR o1) o2; have r0 := fun o1 o2 => blk_cell (hR2 o1 o2) 0; have r1 := fun o1 o2 => blk_cell (hR2 o1 o2) 1; have r2 := fun o1 o2 => blk_cell (hR2 o1 o2) 2; have r3 := fun o1 o2 => blk_cell (hR2 o1 o2) 3; have f0 := fun o1 o2 => blk_frozen (hR2 o1 o2) 0; have f1 := fun o1 o2 => blk_frozen (hR2 o1 o2) 1; have f2 := fun o1 o2 => blk_frozen (hR2 o1 o2) 2; have f3 := fun o1 o2 => blk_frozen (hR2 o1 o2) 3; dsimp at r0 r1 r2 r3; replace hR2 := Aside0.mk hR2; have hBw := Aside0.mk (((Below.refl w.heap.size w).alloc (Nat.le_refl _) _).trans (hB.mono (by simp))); clear hR hB))
  refine bodyPost_ret (results_ct rfl _ _ w.heap.size 30 #[.int .i64 0, .int .i64 0, .int .i64 0, .string (⟨#[]⟩ : ByteArray)] (0, 0) _ rfl ?hblk Tryd.underlying30 rfl (by kernel_rfl)) rfl ?_
  case hblk =>
    refine blk_put (cs := #[.int .i64 0, .int .i64 0, .int .i64 0, .string (⟨#[]⟩ : ByteArray)]) ?_ 3 _ rfl
    refine blk_put (cs := #[.int .i64 0, .int .i64 0, .int .i64 0, .string (⟨#[]⟩ : ByteArray)]) ?_ 2 _ rfl
    refine blk_put (cs := #[.int .i64 0, .int .i64 0, .int .i64 0, .string (⟨#[]⟩ : ByteArray)]) ?_ 1 _ rfl
    refine blk_put (cs := #[.int .i64 0, .int .i64 0, .int .i64 0, .string (⟨#[]⟩ : ByteArray)]) ?_ 0 _ rfl
    exact blk_drewN (hR2.out _ _) _
  refine ⟨rfl, ?_⟩
  repeat (first | exact hBw.out | apply below_alloc | apply pw_below_drewN | refine below_set ?_ (Nat.le_refl _))
set_option maxHeartbeats 4000000 in
set_option maxRecDepth 100000 in
theorem readDeed_len3 (a0 : ByteArray) (w : World) (hG : Glob w) (hs : a0.size < 4294967281) (k0 : ByteArray) (hk : (wordsOf a0)[0]? = some k0) (hj : kindIdx k0 = 3) (hl : ((wordsOf a0).length : Int) ≠ 3) :
    Calls Tryd.prog 33 #[.string a0] w fun e w' => e = .returned (.tuple #[.agg #[.int .i64 0, .int .i64 0, .int .i64 0, .string ⟨#[]⟩], .bool false]) ∧ Below w.heap.size w w' := by
  have hS := fun w hG => splitRow a0 ⟨#[32]⟩ w hG hs (by decide)
  have hn := splitB_ne a0 ⟨#[32]⟩ (by decide)
  change ∀ w hG, Calls _ _ _ w fun e w' => ∃ g, e = .returned (.slice (some ⟨g, 0, none⟩) (wordsOf a0).length (wordsOf a0).length) ∧ w'.heap[g]? = some (.cells ((wordsOf a0).map Value.string).toArray 9 (0, 0)) ∧ w.heap.size ≤ g ∧ Below w.heap.size w w' at hS
  change 0 < (wordsOf a0).length at hn
  generalize wordsOf a0 = ws at hS hn hk hl
  replace hl : (((ws.length : Nat) : Int) == 3) = false := beq_eq_false_iff_ne.2 hl
  have hI := idxRow k0
  rw [hj] at hI
  have HG := Aside0.mk hG
  clear hG hj hs
  go_enter Tryd.func33, Tryd.ntmps33
  go_wp2_with (first | (go_at_call 48; refine (hI _ _ _ (heap_alloc_old (heap_alloc_new _ _) _) (Nat.le_refl _)).mono ?_; rintro e w2 ⟨rfl, ⟨nd, rfl⟩⟩) | (go_at_call 47; refine (hS _ (HG.out.below ((Below.refl _ _).alloc (Nat.le_refl _) _))).mono ?_; rintro e w1 ⟨g, rfl, hb, hg, hB⟩; have hc00 : w1.cell? ⟨g, 0, none⟩ = some (.string k0) := (blk_cell hb 0).trans (by simp [hk]); have hc0 := fun o1 o2 => cell_alloc (cell_alloc hc00 o1) o2; clear hc00; have hR := (hB.block w.heap.size (by simp)).trans (heap_alloc_new w _); have hR2 := fun o1 o2 => heap_alloc_old (heap_alloc_old hR o1) o2; have r0 := fun o1 o2 => blk_cell (hR2 o1 o2) 0; have r1 := fun o1 o2 => blk_cell (hR2 o1 o2) 1; have r2 := fun o1 o2 => blk_cell (hR2 o1 o2) 2; have r3 := fun o1 o2 => blk_cell (hR2 o1 o2) 3; have f0 := fun o1 o2 => blk_frozen (hR2 o1 o2) 0; have f1 := fun o1 o2 => blk_frozen (hR2 o1 o2) 1; have f2 := fun o1 o2 => blk_frozen (hR2 o1 o2) 2; have f3 := fun o1 o2 => blk_frozen (hR2 o1 o2) 3; dsimp at r0 r1 r2 r3; replace hR2 := Aside0.mk hR2; have hBw := Aside0.mk (((Below.refl w.heap.size w).alloc (Nat.le_refl _) _).trans (hB.mono (by simp))); clear hR hB))
  refine bodyPost_ret (results_ct rfl _ _ w.heap.size 30 #[.int .i64 0, .int .i64 0, .int .i64 0, .string (⟨#[]⟩ : ByteArray)] (0, 0) _ rfl ?hblk Tryd.underlying30 rfl (by kernel_rfl)) rfl ?_
  case hblk =>
    refine blk_put (cs := #[.int .i64 0, .int .i64 0, .int .i64 0, .string (⟨#[]⟩ : ByteArray)]) ?_ 3 _ rfl
    refine blk_put (cs := #[.int .i64 0, .int .i64 0, .int .i64 0, .string (⟨#[]⟩ : ByteArray)]) ?_ 2 _ rfl
    refine blk_put (cs := #[.int .i64 0, .int .i64 0, .int .i64 0, .string (⟨#[]⟩ : ByteArray)]) ?_ 1 _ rfl
    refine blk_put (cs := #[.int .i64 0, .int .i64 0, .int .i64 0, .string (⟨#[]⟩ : ByteArray)]) ?_ 0 _ rfl
    exact blk_drewN (hR2.out _ _) _
  refine ⟨rfl, ?_⟩
  repeat (first | exact hBw.out | apply below_alloc | apply pw_below_drewN | refine below_set ?_ (Nat.le_refl _))
set_option maxHeartbeats 4000000 in
set_option maxRecDepth 100000 in
theorem readDeed_len4 (a0 : ByteArray) (w : World) (hG : Glob w) (hs : a0.size < 4294967281) (k0 : ByteArray) (hk : (wordsOf a0)[0]? = some k0) (hj : kindIdx k0 = 4) (hl : ((wordsOf a0).length : Int) ≠ 1) :
    Calls Tryd.prog 33 #[.string a0] w fun e w' => e = .returned (.tuple #[.agg #[.int .i64 0, .int .i64 0, .int .i64 0, .string ⟨#[]⟩], .bool false]) ∧ Below w.heap.size w w' := by
  have hS := fun w hG => splitRow a0 ⟨#[32]⟩ w hG hs (by decide)
  have hn := splitB_ne a0 ⟨#[32]⟩ (by decide)
  change ∀ w hG, Calls _ _ _ w fun e w' => ∃ g, e = .returned (.slice (some ⟨g, 0, none⟩) (wordsOf a0).length (wordsOf a0).length) ∧ w'.heap[g]? = some (.cells ((wordsOf a0).map Value.string).toArray 9 (0, 0)) ∧ w.heap.size ≤ g ∧ Below w.heap.size w w' at hS
  change 0 < (wordsOf a0).length at hn
  generalize wordsOf a0 = ws at hS hn hk hl
  replace hl : (((ws.length : Nat) : Int) == 1) = false := beq_eq_false_iff_ne.2 hl
  have hI := idxRow k0
  rw [hj] at hI
  have HG := Aside0.mk hG
  clear hG hj hs
  go_enter Tryd.func33, Tryd.ntmps33
  go_wp2_with (first | (go_at_call 48; refine (hI _ _ _ (heap_alloc_old (heap_alloc_new _ _) _) (Nat.le_refl _)).mono ?_; rintro e w2 ⟨rfl, ⟨nd, rfl⟩⟩) | (go_at_call 47; refine (hS _ (HG.out.below ((Below.refl _ _).alloc (Nat.le_refl _) _))).mono ?_; rintro e w1 ⟨g, rfl, hb, hg, hB⟩; have hc00 : w1.cell? ⟨g, 0, none⟩ = some (.string k0) := (blk_cell hb 0).trans (by simp [hk]); have hc0 := fun o1 o2 => cell_alloc (cell_alloc hc00 o1) o2; clear hc00; have hR := (hB.block w.heap.size (by simp)).trans (heap_alloc_new w _); have hR2 := fun o1 o2 => heap_alloc_old (heap_alloc_old hR o1) o2; have r0 := fun o1 o2 => blk_cell (hR2 o1 o2) 0; have r1 := fun o1 o2 => blk_cell (hR2 o1 o2) 1; have r2 := fun o1 o2 => blk_cell (hR2 o1 o2) 2; have r3 := fun o1 o2 => blk_cell (hR2 o1 o2) 3; have f0 := fun o1 o2 => blk_frozen (hR2 o1 o2) 0; have f1 := fun o1 o2 => blk_frozen (hR2 o1 o2) 1; have f2 := fun o1 o2 => blk_frozen (hR2 o1 o2) 2; have f3 := fun o1 o2 => blk_frozen (hR2 o1 o2) 3; dsimp at r0 r1 r2 r3; replace hR2 := Aside0.mk hR2; have hBw := Aside0.mk (((Below.refl w.heap.size w).alloc (Nat.le_refl _) _).trans (hB.mono (by simp))); clear hR hB))
  refine bodyPost_ret (results_ct rfl _ _ w.heap.size 30 #[.int .i64 0, .int .i64 0, .int .i64 0, .string (⟨#[]⟩ : ByteArray)] (0, 0) _ rfl ?hblk Tryd.underlying30 rfl (by kernel_rfl)) rfl ?_
  case hblk =>
    refine blk_put (cs := #[.int .i64 0, .int .i64 0, .int .i64 0, .string (⟨#[]⟩ : ByteArray)]) ?_ 3 _ rfl
    refine blk_put (cs := #[.int .i64 0, .int .i64 0, .int .i64 0, .string (⟨#[]⟩ : ByteArray)]) ?_ 2 _ rfl
    refine blk_put (cs := #[.int .i64 0, .int .i64 0, .int .i64 0, .string (⟨#[]⟩ : ByteArray)]) ?_ 1 _ rfl
    refine blk_put (cs := #[.int .i64 0, .int .i64 0, .int .i64 0, .string (⟨#[]⟩ : ByteArray)]) ?_ 0 _ rfl
    exact blk_drewN (hR2.out _ _) _
  refine ⟨rfl, ?_⟩
  repeat (first | exact hBw.out | apply below_alloc | apply pw_below_drewN | refine below_set ?_ (Nat.le_refl _))
end Go.Proofs.YtnkfbappnpnaoaaDoor.Q
namespace Go.Proofs.YtnkfbappnpnaoaaDoor.Q
open Go.RowKit Go.Proofs.YtnkfbappnpnaoaaDoorW.PrintWords Go.Proofs.YtnkfbappnpnaoaaDoorW.PrintLast Go.Proofs.YtnkfbappnpnaoaaDoorW.PrintMore
attribute [local go_sem] max2_int min2_int max_two min_two max_three min_three max_four min_four   -- for this text's walks alone
set_option linter.unusedVariables false
set_option linter.unusedSimpArgs false
theorem str_empty {x : ByteArray} (h : x.toList = []) : x = ⟨#[]⟩ := by
  rw [Lib.toList_data] at h
  cases x
  rename_i d
  congr
  exact Array.toList_eq_nil_iff.1 h
theorem lit_len0 {l : List ByteArray} (h : l.length = 0) : l = [] := List.length_eq_zero_iff.1 h
theorem lit_len1 {l : List ByteArray} (h : l.length = 1) : ∃ x1, l = [x1] := List.length_eq_one_iff.1 h
theorem lit_len2 {l : List ByteArray} (h : l.length = 2) : ∃ x1 x2, l = [x1, x2] := by
  match l, h with
  | [a, b], _ => exact ⟨a, b, rfl⟩
theorem lit_len3 {l : List ByteArray} (h : l.length = 3) : ∃ x1 x2 x3, l = [x1, x2, x3] := by
  match l, h with
  | [a, b, c], _ => exact ⟨a, b, c, rfl⟩
theorem numLoop_cons {s x : ByteArray} {xs : List ByteArray} {i : Nat} {a b : Int} {k : Int} {z : ByteArray} {R : Int × Int × Int × ByteArray × Bool}
    (h : (numLoop (x :: xs) i a b).bind (fun r => match r with | none => deedNone | some (a, b) => deedFin s k a b z) = some R) :
    ∃ p, impl_readNumber.f x = some p ∧ (if p.2 = true then (if i = 0 then (numLoop xs (i + 1) p.1 b).bind (fun r => match r with | none => deedNone | some (a, b) => deedFin s k a b z) else (numLoop xs (i + 1) a p.1).bind (fun r => match r with | none => deedNone | some (a, b) => deedFin s k a b z)) else deedNone) = some R := by
  unfold numLoop at h
  cases hx : impl_readNumber.f x with
  | none => simp [hx] at h
  | some p =>
    refine ⟨p, rfl, ?_⟩
    simp only [hx, Option.bind_some] at h
    by_cases h1 : p.2 = true
    · by_cases h2 : i = 0
      · simpa [h1, h2] using h
      · simpa [h1, h2] using h
    · simpa [h1] using h
theorem deedFin_some {s : ByteArray} {i : Nat} {k a b : Int} {z : ByteArray} {R : Int × Int × Int × ByteArray × Bool}
    (h : (numLoop [] i a b).bind (fun r => match r with | none => deedNone | some (a, b) => deedFin s k a b z) = some R) : ∃ t, impl_deedTextM.f k a b z = some t ∧ (if t.toList = s.toList then some (k, a, b, z, true) else deedNone) = some R := by
  simp only [numLoop, Option.bind_some, deedFin] at h
  cases ht : impl_deedTextM.f k a b z with
  | none => simp [ht] at h
  | some t => exact ⟨t, rfl, by simpa [ht] using h⟩
theorem readNumber_empty : impl_readNumber.f (⟨#[]⟩ : ByteArray) = some ((atoiNum (⟨#[]⟩ : ByteArray)).1, false) := by
  unfold impl_readNumber.f atoiNum
  rfl
theorem readDeed_body (a0 : ByteArray) (w : World) (hG : Glob w) (hs : a0.size < 4294967281) (k0 x1 : ByteArray) (hk : wordsOf a0 = [k0, x1]) (hj : kindIdx k0 = 0) (r1 r2 r3 : Int) (r4 : ByteArray) (r5 : Bool) (h : deedRest a0 [x1] 0 (⟨#[]⟩ : ByteArray) = some (r1, r2, r3, r4, r5)) :
    Calls Tryd.prog 33 #[.string a0] w fun e w' => e = .returned (.tuple #[.agg #[.int .i64 r1, .int .i64 r2, .int .i64 r3, .string r4], .bool r5]) ∧ Below w.heap.size w w' := by
  unfold deedRest at h
  obtain ⟨p, hn0, h⟩ := numLoop_cons h
  obtain ⟨n0, b0⟩ := p
  cases b0
  · simp [deedNone] at h
    obtain ⟨rfl, rfl, rfl, rfl, rfl⟩ := h
    exact readDeed_body_0 a0 w hG hs k0 x1 hk hj n0 hn0
  simp at h
  obtain ⟨t, ht, h⟩ := deedFin_some h
  split at h
  · rename_i he
    simp at h
    obtain ⟨rfl, rfl, rfl, rfl, rfl⟩ := h
    exact readDeed_body_eq a0 w hG hs k0 x1 hk hj n0 hn0 t ht (by simp [he])
  · rename_i he
    simp [deedNone] at h
    obtain ⟨rfl, rfl, rfl, rfl, rfl⟩ := h
    exact readDeed_body_ne a0 w hG hs k0 x1 hk hj n0 hn0 t ht (by simpa using he)
theorem readDeed_drop (a0 : ByteArray) (w : World) (hG : Glob w) (hs : a0.size < 4294967281) (k0 x1 x2 : ByteArray) (hk : wordsOf a0 = [k0, x1, x2]) (hj : kindIdx k0 = 3) (r1 r2 r3 : Int) (r4 : ByteArray) (r5 : Bool) (h : deedRest a0 [x1, x2] 3 (⟨#[]⟩ : ByteArray) = some (r1, r2, r3, r4, r5)) :
    Calls Tryd.prog 33 #[.string a0] w fun e w' => e = .returned (.tuple #[.agg #[.int .i64 r1, .int .i64 r2, .int .i64 r3, .string r4], .bool r5]) ∧ Below w.heap.size w w' := by
  unfold deedRest at h
  obtain ⟨p, hn0, h⟩ := numLoop_cons h
  obtain ⟨n0, b0⟩ := p
  cases b0
  · simp [deedNone] at h
    obtain ⟨rfl, rfl, rfl, rfl, rfl⟩ := h
    exact readDeed_drop_0 a0 w hG hs k0 x1 x2 hk hj n0 hn0
  simp at h
  obtain ⟨p, hn1, h⟩ := numLoop_cons h
  obtain ⟨n1, b1⟩ := p
  cases b1
  · simp [deedNone] at h
    obtain ⟨rfl, rfl, rfl, rfl, rfl⟩ := h
    exact readDeed_drop_1 a0 w hG hs k0 x1 x2 hk hj n0 n1 hn0 hn1
  simp at h
  obtain ⟨t, ht, h⟩ := deedFin_some h
  split at h
  · rename_i he
    simp at h
    obtain ⟨rfl, rfl, rfl, rfl, rfl⟩ := h
    exact readDeed_drop_eq a0 w hG hs k0 x1 x2 hk hj n0 n1 hn0 hn1 t ht (by simp [he])
  · rename_i he
    simp [deedNone] at h
    obtain ⟨rfl, rfl, rfl, rfl, rfl⟩ := h
    exact readDeed_drop_ne a0 w hG hs k0 x1 x2 hk hj n0 n1 hn0 hn1 t ht (by simpa using he)
theorem readDeed_back (a0 : ByteArray) (w : World) (hG : Glob w) (hs : a0.size < 4294967281) (k0 : ByteArray) (hk : wordsOf a0 = [k0]) (hj : kindIdx k0 = 4) (r1 r2 r3 : Int) (r4 : ByteArray) (r5 : Bool) (h : deedRest a0 [] 4 (⟨#[]⟩ : ByteArray) = some (r1, r2, r3, r4, r5)) :
    Calls Tryd.prog 33 #[.string a0] w fun e w' => e = .returned (.tuple #[.agg #[.int .i64 r1, .int .i64 r2, .int .i64 r3, .string r4], .bool r5]) ∧ Below w.heap.size w w' := by
  unfold deedRest at h
  obtain ⟨t, ht, h⟩ := deedFin_some h
  split at h
  · rename_i he
    simp at h
    obtain ⟨rfl, rfl, rfl, rfl, rfl⟩ := h
    exact readDeed_back_eq a0 w hG hs k0 hk hj   t ht (by simp [he])
  · rename_i he
    simp [deedNone] at h
    obtain ⟨rfl, rfl, rfl, rfl, rfl⟩ := h
    exact readDeed_back_ne a0 w hG hs k0 hk hj   t ht (by simpa using he)
theorem readDeed_ruleE (a0 : ByteArray) (w : World) (hG : Glob w) (hs : a0.size < 4294967281) (k0 : ByteArray) (hk : wordsOf a0 = [k0, ⟨#[]⟩]) (hj : kindIdx k0 = 1) (r1 r2 r3 : Int) (r4 : ByteArray) (r5 : Bool) (h : deedRest a0 [⟨#[]⟩] 1 (⟨#[]⟩ : ByteArray) = some (r1, r2, r3, r4, r5)) :
    Calls Tryd.prog 33 #[.string a0] w fun e w' => e = .returned (.tuple #[.agg #[.int .i64 r1, .int .i64 r2, .int .i64 r3, .string r4], .bool r5]) ∧ Below w.heap.size w w' := by
  unfold deedRest at h
  obtain ⟨p, hn0, h⟩ := numLoop_cons h
  obtain ⟨n0, b0⟩ := p
  cases b0
  · simp [deedNone] at h
    obtain ⟨rfl, rfl, rfl, rfl, rfl⟩ := h
    exact readDeed_ruleE_0 a0 w hG hs k0 hk hj n0 hn0
  · rw [readNumber_empty] at hn0
    simp at hn0
theorem readDeed_ruleW (a0 : ByteArray) (w : World) (hG : Glob w) (hs : a0.size < 4294967281) (k0 x1 : ByteArray) (hk : wordsOf a0 = [k0, x1]) (hj : kindIdx k0 = 1) (hz : x1.toList.isEmpty = false) (r1 r2 r3 : Int) (r4 : ByteArray) (r5 : Bool) (h : deedRest a0 [] 1 x1 = some (r1, r2, r3, r4, r5)) :
    Calls Tryd.prog 33 #[.string a0] w fun e w' => e = .returned (.tuple #[.agg #[.int .i64 r1, .int .i64 r2, .int .i64 r3, .string r4], .bool r5]) ∧ Below w.heap.size w w' := by
  unfold deedRest at h
  obtain ⟨t, ht, h⟩ := deedFin_some h
  split at h
  · rename_i he
    simp at h
    obtain ⟨rfl, rfl, rfl, rfl, rfl⟩ := h
    exact readDeed_ruleW_eq a0 w hG hs k0 x1 hk hj hz   t ht (by simp [he])
  · rename_i he
    simp [deedNone] at h
    obtain ⟨rfl, rfl, rfl, rfl, rfl⟩ := h
    exact readDeed_ruleW_ne a0 w hG hs k0 x1 hk hj hz   t ht (by simpa using he)
theorem readDeed_amendE (a0 : ByteArray) (w : World) (hG : Glob w) (hs : a0.size < 4294967281) (k0 x1 x2 : ByteArray) (hk : wordsOf a0 = [k0, x1, x2, ⟨#[]⟩]) (hj : kindIdx k0 = 2) (r1 r2 r3 : Int) (r4 : ByteArray) (r5 : Bool) (h : deedRest a0 [x1, x2, ⟨#[]⟩] 2 (⟨#[]⟩ : ByteArray) = some (r1, r2, r3, r4, r5)) :
    Calls Tryd.prog 33 #[.string a0] w fun e w' => e = .returned (.tuple #[.agg #[.int .i64 r1, .int .i64 r2, .int .i64 r3, .string r4], .bool r5]) ∧ Below w.heap.size w w' := by
  unfold deedRest at h
  obtain ⟨p, hn0, h⟩ := numLoop_cons h
  obtain ⟨n0, b0⟩ := p
  cases b0
  · simp [deedNone] at h
    obtain ⟨rfl, rfl, rfl, rfl, rfl⟩ := h
    exact readDeed_amendE_0 a0 w hG hs k0 x1 x2 hk hj n0 hn0
  simp at h
  obtain ⟨p, hn1, h⟩ := numLoop_cons h
  obtain ⟨n1, b1⟩ := p
  cases b1
  · simp [deedNone] at h
    obtain ⟨rfl, rfl, rfl, rfl, rfl⟩ := h
    exact readDeed_amendE_1 a0 w hG hs k0 x1 x2 hk hj n0 n1 hn0 hn1
  simp at h
  obtain ⟨p, hn2, h⟩ := numLoop_cons h
  obtain ⟨n2, b2⟩ := p
  cases b2
  · simp [deedNone] at h
    obtain ⟨rfl, rfl, rfl, rfl, rfl⟩ := h
    exact readDeed_amendE_2 a0 w hG hs k0 x1 x2 hk hj n0 n1 n2 hn0 hn1 hn2
  · rw [readNumber_empty] at hn2
    simp at hn2
theorem readDeed_amendW (a0 : ByteArray) (w : World) (hG : Glob w) (hs : a0.size < 4294967281) (k0 x1 x2 x3 : ByteArray) (hk : wordsOf a0 = [k0, x1, x2, x3]) (hj : kindIdx k0 = 2) (hz : x3.toList.isEmpty = false) (r1 r2 r3 : Int) (r4 : ByteArray) (r5 : Bool) (h : deedRest a0 [x1, x2] 2 x3 = some (r1, r2, r3, r4, r5)) :
    Calls Tryd.prog 33 #[.string a0] w fun e w' => e = .returned (.tuple #[.agg #[.int .i64 r1, .int .i64 r2, .int .i64 r3, .string r4], .bool r5]) ∧ Below w.heap.size w w' := by
  unfold deedRest at h
  obtain ⟨p, hn0, h⟩ := numLoop_cons h
  obtain ⟨n0, b0⟩ := p
  cases b0
  · simp [deedNone] at h
    obtain ⟨rfl, rfl, rfl, rfl, rfl⟩ := h
    exact readDeed_amendW_0 a0 w hG hs k0 x1 x2 x3 hk hj hz n0 hn0
  simp at h
  obtain ⟨p, hn1, h⟩ := numLoop_cons h
  obtain ⟨n1, b1⟩ := p
  cases b1
  · simp [deedNone] at h
    obtain ⟨rfl, rfl, rfl, rfl, rfl⟩ := h
    exact readDeed_amendW_1 a0 w hG hs k0 x1 x2 x3 hk hj hz n0 n1 hn0 hn1
  simp at h
  obtain ⟨t, ht, h⟩ := deedFin_some h
  split at h
  · rename_i he
    simp at h
    obtain ⟨rfl, rfl, rfl, rfl, rfl⟩ := h
    exact readDeed_amendW_eq a0 w hG hs k0 x1 x2 x3 hk hj hz n0 n1 hn0 hn1 t ht (by simp [he])
  · rename_i he
    simp [deedNone] at h
    obtain ⟨rfl, rfl, rfl, rfl, rfl⟩ := h
    exact readDeed_amendW_ne a0 w hG hs k0 x1 x2 x3 hk hj hz n0 n1 hn0 hn1 t ht (by simpa using he)
theorem impl_readDeed.calls (a0 : ByteArray) (r1 : Int) (r2 : Int) (r3 : Int) (r4 : ByteArray) (r5 : Bool) (w : World) (hG : Glob w) (h : impl_readDeed.f a0 = some (r1, r2, r3, r4, r5)) :
    Calls Tryd.prog 33 #[.string a0] w fun e w' => e = .returned (.tuple #[.agg #[.int .i64 r1, .int .i64 r2, .int .i64 r3, .string r4], .bool r5]) ∧ Below w.heap.size w w' := by
  unfold impl_readDeed.f at h
  split at h
  case isFalse => simp at h
  rename_i hs
  have hn : 0 < (wordsOf a0).length := splitB_ne a0 ⟨#[32]⟩ (by decide)
  obtain ⟨k0, rest, hk⟩ : ∃ k0 rest, wordsOf a0 = k0 :: rest := by
    cases hw : wordsOf a0 with
    | nil => simp [hw] at hn
    | cons k rest => exact ⟨k, rest, rfl⟩
  rw [hk] at h
  have hk0 : (wordsOf a0)[0]? = some k0 := by simp [hk]
  unfold deedOf at h
  simp only [List.getD_cons_zero] at h
  have hR := kindIdx_range k0
  by_cases hneg : kindIdx k0 < 0
  · rw [if_pos hneg] at h
    simp [deedNone] at h
    obtain ⟨rfl, rfl, rfl, rfl, rfl⟩ := h
    exact readDeed_neg a0 w hG hs k0 hk0 hneg
  rw [if_neg hneg] at h
  have hcases : kindIdx k0 = 0 ∨ kindIdx k0 = 1 ∨ kindIdx k0 = 2 ∨ kindIdx k0 = 3 ∨ kindIdx k0 = 4 := by omega
  rcases hcases with hj | hj | hj | hj | hj
  · rw [hj] at h
    by_cases hl : ((wordsOf a0).length : Int) = 2
    · have hl2 : (((k0 :: rest).length : Nat) : Int) = 2 := by rw [← hk]; exact hl
      have hl3 : rest.length = 1 := by simp at hl2; omega
      obtain ⟨x1, rfl⟩ := lit_len1 hl3
      rw [if_pos (by rw [hl2]; rfl)] at h
      rw [if_neg (by decide)] at h
      exact readDeed_body a0 w hG hs k0 x1 hk hj _ _ _ _ _ h
    · rw [if_neg (by rw [← hk]; exact hl)] at h
      simp [deedNone] at h
      obtain ⟨rfl, rfl, rfl, rfl, rfl⟩ := h
      exact readDeed_len0 a0 w hG hs k0 hk0 hj hl
  · rw [hj] at h
    by_cases hl : ((wordsOf a0).length : Int) = 2
    · have hl2 : (((k0 :: rest).length : Nat) : Int) = 2 := by rw [← hk]; exact hl
      have hl3 : rest.length = 1 := by simp at hl2; omega
      obtain ⟨x1, rfl⟩ := lit_len1 hl3
      rw [if_pos (by rw [hl2]; rfl)] at h
      rw [if_pos (by decide)] at h
      by_cases hz : x1.toList = []
      · rw [if_pos (show ([k0, x1].getD ([k0, x1].length - 1) ByteArray.empty).toList = [] from hz)] at h
        have : x1 = ⟨#[]⟩ := str_empty hz
        subst this
        exact readDeed_ruleE a0 w hG hs k0  hk hj _ _ _ _ _ h
      · have hz2 : x1.toList.isEmpty = false := by simpa using hz
        simp [hz] at h
        exact readDeed_ruleW a0 w hG hs k0 x1 hk hj hz2 _ _ _ _ _ h
    · rw [if_neg (by rw [← hk]; exact hl)] at h
      simp [deedNone] at h
      obtain ⟨rfl, rfl, rfl, rfl, rfl⟩ := h
      exact readDeed_len1 a0 w hG hs k0 hk0 hj hl
  · rw [hj] at h
    by_cases hl : ((wordsOf a0).length : Int) = 4
    · have hl2 : (((k0 :: rest).length : Nat) : Int) = 4 := by rw [← hk]; exact hl
      have hl3 : rest.length = 3 := by simp at hl2; omega
      obtain ⟨x1, x2, x3, rfl⟩ := lit_len3 hl3
      rw [if_pos (by rw [hl2]; rfl)] at h
      rw [if_pos (by decide)] at h
      by_cases hz : x3.toList = []
      · rw [if_pos (show ([k0, x1, x2, x3].getD ([k0, x1, x2, x3].length - 1) ByteArray.empty).toList = [] from hz)] at h
        have : x3 = ⟨#[]⟩ := str_empty hz
        subst this
        exact readDeed_amendE a0 w hG hs k0 x1 x2 hk hj _ _ _ _ _ h
      · have hz2 : x3.toList.isEmpty = false := by simpa using hz
        simp [hz] at h
        exact readDeed_amendW a0 w hG hs k0 x1 x2 x3 hk hj hz2 _ _ _ _ _ h
    · rw [if_neg (by rw [← hk]; exact hl)] at h
      simp [deedNone] at h
      obtain ⟨rfl, rfl, rfl, rfl, rfl⟩ := h
      exact readDeed_len2 a0 w hG hs k0 hk0 hj hl
  · rw [hj] at h
    by_cases hl : ((wordsOf a0).length : Int) = 3
    · have hl2 : (((k0 :: rest).length : Nat) : Int) = 3 := by rw [← hk]; exact hl
      have hl3 : rest.length = 2 := by simp at hl2; omega
      obtain ⟨x1, x2, rfl⟩ := lit_len2 hl3
      rw [if_pos (by rw [hl2]; rfl)] at h
      rw [if_neg (by decide)] at h
      exact readDeed_drop a0 w hG hs k0 x1 x2 hk hj _ _ _ _ _ h
    · rw [if_neg (by rw [← hk]; exact hl)] at h
      simp [deedNone] at h
      obtain ⟨rfl, rfl, rfl, rfl, rfl⟩ := h
      exact readDeed_len3 a0 w hG hs k0 hk0 hj hl
  · rw [hj] at h
    by_cases hl : ((wordsOf a0).length : Int) = 1
    · have hl2 : (((k0 :: rest).length : Nat) : Int) = 1 := by rw [← hk]; exact hl
      have hl3 : rest.length = 0 := by simp at hl2; omega
      obtain ⟨rfl⟩ := lit_len0 hl3
      rw [if_pos (by rw [hl2]; rfl)] at h
      rw [if_neg (by decide)] at h
      exact readDeed_back a0 w hG hs k0  hk hj _ _ _ _ _ h
    · rw [if_neg (by rw [← hk]; exact hl)] at h
      simp [deedNone] at h
      obtain ⟨rfl, rfl, rfl, rfl, rfl⟩ := h
      exact readDeed_len4 a0 w hG hs k0 hk0 hj hl
end Go.Proofs.YtnkfbappnpnaoaaDoor.Q
namespace Go.Proofs.YtnkfbappnpnaoaaDoor.Q
open Go.RowKit Go.Proofs.YtnkfbappnpnaoaaDoorW.PrintWords Go.Proofs.YtnkfbappnpnaoaaDoorW.PrintLast Go.Proofs.YtnkfbappnpnaoaaDoorW.PrintMore
attribute [local go_sem] max2_int min2_int max_two min_two max_three min_three max_four min_four   -- for this text's walks alone
set_option linter.unusedVariables false
set_option linter.unusedSimpArgs false
abbrev D5 := Int × Int × Int × ByteArray × Bool
def zero5 : D5 := (0, 0, 0, ⟨#[]⟩, false)
theorem deedNone_eq : deedNone = some zero5 := rfl
def Reads5 (s : ByteArray) (R : D5) : Prop := R = zero5 ∨ (R.2.2.2.2 = true ∧ dText R.1 R.2.1 R.2.2.1 R.2.2.2.1 = s ∧ s.toList ≠ [] ∧ R.2.2.2.1.size ≤ s.size)
theorem readNumber_tot (x : ByteArray) (h : x.size ≤ 281474976710656) : ∃ p, impl_readNumber.f x = some p := by
  unfold impl_readNumber.f
  rw [if_pos h]
  exact ⟨_, rfl⟩
theorem numLoop_tot : ∀ (xs : List ByteArray) (i : Nat) (a b : Int), (∀ x ∈ xs, x.size ≤ 281474976710656) → ∃ r, numLoop xs i a b = some r
  | [], _, a, b, _ => ⟨_, rfl⟩
  | x :: xs, i, a, b, h => by
    obtain ⟨p, hp⟩ := readNumber_tot x (h x (by simp))
    unfold numLoop
    rw [hp, Option.bind_some]
    split
    · split
      · exact numLoop_tot xs _ _ _ (fun y hy => h y (by simp [hy]))
      · exact numLoop_tot xs _ _ _ (fun y hy => h y (by simp [hy]))
    · exact ⟨_, rfl⟩
theorem deedFin_tot (s : ByteArray) (k a b : Int) (z : ByteArray) (hne : s.toList ≠ []) (hs : s.size < 4294967281) (hz : z.size ≤ s.size) : ∃ R, deedFin s k a b z = some R ∧ Reads5 s R := by
  unfold deedFin
  rw [deedTextM_eq k a b z (by omega), Option.bind_some]
  split
  · rename_i h
    exact ⟨_, rfl, Or.inr ⟨rfl, toList_inj h, hne, hz⟩⟩
  · exact ⟨_, rfl, Or.inl rfl⟩
theorem deedRest_tot (s : ByteArray) (nums : List ByteArray) (k : Int) (z : ByteArray) (hne : s.toList ≠ []) (hs : s.size < 4294967281) (hz : z.size ≤ s.size) (hn : ∀ x ∈ nums, x.size ≤ s.size) : ∃ R, deedRest s nums k z = some R ∧ Reads5 s R := by
  obtain ⟨r, hr⟩ := numLoop_tot nums 0 0 0 (fun x hx => by have := hn x hx; omega)
  unfold deedRest
  rw [hr, Option.bind_some]
  cases r with
  | none => exact ⟨_, rfl, Or.inl rfl⟩
  | some p =>
    obtain ⟨a, b⟩ := p
    exact deedFin_tot s k a b z hne hs hz
theorem getD_mem {α : Type} (l : List α) (i : Nat) (d : α) : l.getD i d ∈ l ∨ l.getD i d = d := by
  rw [List.getD_eq_getElem?_getD]
  cases h : l[i]? with
  | none => exact Or.inr rfl
  | some x => exact Or.inl (by simpa using List.mem_of_getElem? h)
theorem readDeed_tot (s : ByteArray) (hs : s.size < 4294967281) : ∃ R, impl_readDeed.f s = some R ∧ Reads5 s R := by
  unfold impl_readDeed.f
  rw [if_pos hs]
  by_cases hne : s.toList = []
  · have : wordsOf s = [bs []] := words_join [[]] (by simp) (by simp) s hne
    rw [this]
    exact ⟨zero5, by simp [deedOf, kindIdx, bs_toList, deedNone_eq], Or.inl rfl⟩
  have hw := words_size s
  generalize wordsOf s = ws at hw
  unfold deedOf
  have hsz : ∀ x ∈ ws.drop 1, x.size ≤ s.size := fun x hx => hw x (List.mem_of_mem_drop hx)
  have hz0 : (⟨#[]⟩ : ByteArray).size ≤ s.size := Nat.zero_le _
  split
  · exact ⟨_, rfl, Or.inl rfl⟩
  split
  · split
    · split
      · exact deedRest_tot s _ _ _ hne hs hz0 hsz
      · refine deedRest_tot s _ _ _ hne hs ?_ (fun x hx => hsz x ((List.dropLast_sublist _).subset hx))
        rcases getD_mem ws (ws.length - 1) ByteArray.empty with h | h
        · exact hw _ h
        · rw [h]; exact Nat.zero_le _
    · exact deedRest_tot s _ _ _ hne hs hz0 hsz
  · exact ⟨_, rfl, Or.inl rfl⟩
theorem readNumber_num (a : Int) (h0 : 0 ≤ a) (h1 : a ≤ 99) : impl_readNumber.f (numB a) = some (a, true) := by
  have h : ∀ a : Fin 100, (match Lib.atoiAll (num2 a.val) with | .ok v => v == (a.val : Int) | _ => false) = true := by decide +kernel
  have h2 := h ⟨a.toNat, by omega⟩
  have e : ((a.toNat : Nat) : Int) = a := by omega
  have h3 : Lib.atoiAll (num2 a.toNat) = .ok a := by
    simp only [e] at h2
    cases h4 : Lib.atoiAll (num2 a.toNat) <;> simp [h4] at h2
    rw [h2]
  have h5 : Lib.itoa a = num2 a.toNat := by
    unfold Lib.itoa
    rw [if_neg (by omega), ← decDigits_num2 _ (by omega)]
    try congr 1
  unfold impl_readNumber.f
  have hsz := numB_size a h0 h1
  rw [if_pos (by omega)]
  have h6 : atoiNum (numB a) = (a, true) := by
    unfold atoiNum
    show (match Lib.atoiAll (num2 a.toNat) with | .ok v => (v, true) | _ => _) = _
    rw [h3]
  rw [h6, h5]
  simp [h0, numB, bs_data]
  omega
theorem kind_lits : kindIdx (bs [98, 111, 100, 121]) = 0 ∧ kindIdx (bs [114, 117, 108, 101]) = 1 ∧ kindIdx (bs [97, 109, 101, 110, 100]) = 2 ∧ kindIdx (bs [100, 114, 111, 112]) = 3 ∧ kindIdx (bs [98, 97, 99, 107]) = 4 := by
  simp [kindIdx, bs_toList]
theorem numB_toList (a : Int) : (numB a).toList = num2 a.toNat := bs_toList _
theorem nosp (a : Int) (h0 : 0 ≤ a) (h1 : a ≤ 99) : (32 : UInt8) ∉ num2 a.toNat := num2_nosp ⟨a.toNat, by omega⟩
theorem nosp_z {z : ByteArray} (h : plainB z = true) : (32 : UInt8) ∉ z.toList ∧ z.toList ≠ [] := by
  unfold plainB at h
  simp at h
  refine ⟨fun hm => ?_, h.1⟩
  have := h.2 _ hm
  simp [isGap] at this
theorem words_body (a : Int) (h0 : 0 ≤ a) (h1 : a ≤ 99) (s : ByteArray) (hs : (⟨#[98, 111, 100, 121, 32]⟩ : ByteArray) ++ numB a = s) : wordsOf s = [bs [98, 111, 100, 121], numB a] := by
  subst hs
  exact words_join [[98, 111, 100, 121], num2 a.toNat] (by simp) (by
    intro w hw
    simp at hw
    rcases hw with rfl | rfl
    · decide
    · exact nosp a h0 h1) _ (by rw [app_toList, numB_toList]; rw [show (⟨#[98, 111, 100, 121, 32]⟩ : ByteArray) = bs [98, 111, 100, 121, 32] from rfl, bs_toList]; rfl)
theorem words_rule (z : ByteArray) (hz : plainB z = true) (s : ByteArray) (hs : (⟨#[114, 117, 108, 101, 32]⟩ : ByteArray) ++ z = s) : wordsOf s = [bs [114, 117, 108, 101], z] := by
  subst hs
  rw [words_join [[114, 117, 108, 101], z.toList] (by simp) (by
    intro w hw
    simp at hw
    rcases hw with rfl | rfl
    · decide
    · exact (nosp_z hz).1) _ (by rw [app_toList]; rw [show (⟨#[114, 117, 108, 101, 32]⟩ : ByteArray) = bs [114, 117, 108, 101, 32] from rfl, bs_toList]; rfl)]
  simp [bs_of]
theorem words_amend (a b : Int) (h0 : 0 ≤ a) (h1 : a ≤ 99) (h2 : 0 ≤ b) (h3 : b ≤ 99) (z : ByteArray) (hz : plainB z = true) (s : ByteArray) (hs : ((((⟨#[97, 109, 101, 110, 100, 32]⟩ : ByteArray) ++ numB a) ++ (⟨#[32]⟩ : ByteArray)) ++ numB b) ++ (⟨#[32]⟩ : ByteArray) ++ z = s) : wordsOf s = [bs [97, 109, 101, 110, 100], numB a, numB b, z] := by
  subst hs
  rw [words_join [[97, 109, 101, 110, 100], num2 a.toNat, num2 b.toNat, z.toList] (by simp) (by
    intro w hw
    simp at hw
    rcases hw with rfl | rfl | rfl | rfl
    · decide
    · exact nosp a h0 h1
    · exact nosp b h2 h3
    · exact (nosp_z hz).1) _ (by simp only [app_toList, numB_toList]; rw [show (⟨#[97, 109, 101, 110, 100, 32]⟩ : ByteArray) = bs [97, 109, 101, 110, 100, 32] from rfl, show (⟨#[32]⟩ : ByteArray) = bs [32] from rfl, bs_toList, bs_toList]; simp [joinL])]
  simp [bs_of, numB]
theorem words_drop (a b : Int) (h0 : 0 ≤ a) (h1 : a ≤ 99) (h2 : 0 ≤ b) (h3 : b ≤ 99) (s : ByteArray) (hs : (((⟨#[100, 114, 111, 112, 32]⟩ : ByteArray) ++ numB a) ++ (⟨#[32]⟩ : ByteArray)) ++ numB b = s) : wordsOf s = [bs [100, 114, 111, 112], numB a, numB b] := by
  subst hs
  rw [words_join [[100, 114, 111, 112], num2 a.toNat, num2 b.toNat] (by simp) (by
    intro w hw
    simp at hw
    rcases hw with rfl | rfl | rfl
    · decide
    · exact nosp a h0 h1
    · exact nosp b h2 h3) _ (by simp only [app_toList, numB_toList]; rw [show (⟨#[100, 114, 111, 112, 32]⟩ : ByteArray) = bs [100, 114, 111, 112, 32] from rfl, show (⟨#[32]⟩ : ByteArray) = bs [32] from rfl, bs_toList, bs_toList]; simp [joinL])]
  simp [numB]
theorem words_back (s : ByteArray) (hs : (⟨#[98, 97, 99, 107]⟩ : ByteArray) = s) : wordsOf s = [bs [98, 97, 99, 107]] := by
  subst hs
  exact words_join [[98, 97, 99, 107]] (by simp) (by simp) _ (bs_toList [98, 97, 99, 107])
theorem dText_cases {k a b : Int} {z s : ByteArray} (h : dText k a b z = s) (hs : s.toList ≠ []) : (0 ≤ a ∧ a ≤ 99 ∧ 0 ≤ b ∧ b ≤ 99) ∧
    ((k = 0 ∧ b = 0 ∧ z = ⟨#[]⟩ ∧ (⟨#[98, 111, 100, 121, 32]⟩ : ByteArray) ++ numB a = s) ∨ (k = 1 ∧ a = 0 ∧ b = 0 ∧ plainB z = true ∧ (⟨#[114, 117, 108, 101, 32]⟩ : ByteArray) ++ z = s) ∨
     (k = 2 ∧ plainB z = true ∧ ((((⟨#[97, 109, 101, 110, 100, 32]⟩ : ByteArray) ++ numB a) ++ (⟨#[32]⟩ : ByteArray)) ++ numB b) ++ (⟨#[32]⟩ : ByteArray) ++ z = s) ∨
     (k = 3 ∧ z = ⟨#[]⟩ ∧ (((⟨#[100, 114, 111, 112, 32]⟩ : ByteArray) ++ numB a) ++ (⟨#[32]⟩ : ByteArray)) ++ numB b = s) ∨ (k = 4 ∧ a = 0 ∧ b = 0 ∧ z = ⟨#[]⟩ ∧ (⟨#[98, 97, 99, 107]⟩ : ByteArray) = s)) := by
  have he : (⟨#[]⟩ : ByteArray).toList = [] := bs_toList []
  unfold dText at h
  split at h
  · subst h; exact absurd he hs
  rename_i hr
  refine ⟨Classical.not_not.1 hr, ?_⟩
  split at h
  · rename_i c; exact Or.inl ⟨c.1, c.2.1, str_empty c.2.2, h⟩
  split at h
  · rename_i c; exact Or.inr (Or.inl ⟨c.1, c.2.1, c.2.2.1, c.2.2.2, h⟩)
  split at h
  · rename_i c; exact Or.inr (Or.inr (Or.inl ⟨c.1, c.2, h⟩))
  split at h
  · rename_i c; exact Or.inr (Or.inr (Or.inr (Or.inl ⟨c.1, str_empty c.2, h⟩)))
  split at h
  · rename_i c; exact Or.inr (Or.inr (Or.inr (Or.inr ⟨c.1, c.2.1, c.2.2.1, str_empty c.2.2.2, h⟩)))
  · subst h; exact absurd he hs
theorem deedFin_hit {s : ByteArray} {k a b : Int} {z : ByteArray} (h : dText k a b z = s) (hz : z.size < 4294967281) : deedFin s k a b z = some (k, a, b, z, true) := by
  unfold deedFin
  rw [deedTextM_eq k a b z hz, Option.bind_some, h, if_pos rfl]
theorem empty_size : (⟨#[]⟩ : ByteArray).size < 4294967281 := by decide
theorem readDeed_hit (k a b : Int) (z s : ByteArray) (hsz : s.size < 4294967281) (h : dText k a b z = s) (hs : s.toList ≠ []) (hz : z.size < 4294967281) : impl_readDeed.f s = some (k, a, b, z, true) := by
  obtain ⟨k0, k1, k2, k3, k4⟩ := kind_lits
  unfold impl_readDeed.f
  rw [if_pos hsz]
  obtain ⟨⟨ha0, ha1, hb0, hb1⟩, hc⟩ := dText_cases h hs
  rcases hc with ⟨rfl, rfl, rfl, hc⟩ | ⟨rfl, rfl, rfl, hp, hc⟩ | ⟨rfl, hp, hc⟩ | ⟨rfl, rfl, hc⟩ | ⟨rfl, rfl, rfl, rfl, hc⟩
  · rw [words_body a ha0 ha1 s hc]
    unfold deedOf
    simp only [List.getD_cons_zero, k0]
    simp [countsL, deedRest, numLoop, readNumber_num a ha0 ha1, deedFin_hit h empty_size]
  · rw [words_rule z hp s hc]
    unfold deedOf
    simp only [List.getD_cons_zero, k1]
    simp [countsL, deedRest, numLoop, deedFin_hit h hz, (nosp_z hp).2]
  · rw [words_amend a b ha0 ha1 hb0 hb1 z hp s hc]
    unfold deedOf
    simp only [List.getD_cons_zero, k2]
    simp [countsL, deedRest, numLoop, readNumber_num a ha0 ha1, readNumber_num b hb0 hb1, deedFin_hit h hz, (nosp_z hp).2]
  · rw [words_drop a b ha0 ha1 hb0 hb1 s hc]
    unfold deedOf
    simp only [List.getD_cons_zero, k3]
    simp [countsL, deedRest, numLoop, readNumber_num a ha0 ha1, readNumber_num b hb0 hb1, deedFin_hit h empty_size]
  · rw [words_back s hc]
    unfold deedOf
    simp only [List.getD_cons_zero, k4]
    simp [countsL, deedRest, numLoop, deedFin_hit h empty_size]
end Go.Proofs.YtnkfbappnpnaoaaDoor.Q
namespace Go.Proofs.YtnkfbappnpnaoaaDoor.Q
open Go.RowKit Go.Proofs.YtnkfbappnpnaoaaDoorW.PrintWords Go.Proofs.YtnkfbappnpnaoaaDoorW.PrintLast Go.Proofs.YtnkfbappnpnaoaaDoorW.PrintMore
attribute [local go_sem] max2_int min2_int max_two min_two max_three min_three max_four min_four   -- for this text's walks alone
set_option linter.unusedVariables false
set_option linter.unusedSimpArgs false
def impl_arePeople.f (a0 : Int) : Option (Bool) := if a0 ≥ 1 then (some (decide (a0 ≤ 6))) else (some false)
set_option maxHeartbeats 8000000 in
set_option maxRecDepth 100000 in
theorem impl_arePeople.calls (a0 : Int) (r : Bool) (w : World) (h : impl_arePeople.f a0 = some r) :
    Calls Tryd.prog 57 #[.int .i64 a0] w fun e w' => e = .returned (.bool r) ∧ Drawn0 w w' := by
 have H : (if a0 ≥ 1 then (some (decide (a0 ≤ 6))) else (some false)) = some r := h
 clear h
 by_cases c2 : a0 ≥ 1
 {
 rw [if_pos c2] at H
 have c2b0 : decide (1 ≤ a0) = true := decide_eq_true c2
 clear c2
 obtain rfl := Option.some.inj H
 go_enter Tryd.func57, Tryd.ntmps57
 go_wp2
 go_ret
 exact ⟨zcj_4, zcj_21⟩
 }
 {
 rw [if_neg c2] at H
 have c2b0 : decide (1 ≤ a0) = false := decide_eq_false c2
 clear c2
 obtain rfl := Option.some.inj H
 go_enter Tryd.func57, Tryd.ntmps57
 go_wp2
 go_ret
 exact ⟨zcj_4, zcj_21⟩
 }
end Go.Proofs.YtnkfbappnpnaoaaDoor.Q
namespace Go.Proofs.YtnkfbappnpnaoaaDoor.Q
open Go.RowKit Go.Proofs.YtnkfbappnpnaoaaDoorW.PrintWords Go.Proofs.YtnkfbappnpnaoaaDoorW.PrintLast Go.Proofs.YtnkfbappnpnaoaaDoorW.PrintMore
attribute [local go_sem] max2_int min2_int max_two min_two max_three min_three max_four min_four   -- for this text's walks alone
set_option linter.unusedVariables false
set_option linter.unusedSimpArgs false
def impl_isCrowd.f (a0 : Int) (a1 : Int) : Option (Bool) := (impl_arePeople.f a0).bind fun t488 => (if t488 = true then (if a1 ≥ 0 then (if 0 ≤ a0 then (some (decide (a1 < (shl .i64 1 a0)))) else (none)) else (some false)) else (some false))
set_option maxHeartbeats 8000000 in
set_option maxRecDepth 100000 in
theorem impl_isCrowd.calls (a0 : Int) (a1 : Int) (r : Bool) (w : World) (h : impl_isCrowd.f a0 a1 = some r) :
    Calls Tryd.prog 46 #[.int .i64 a0, .int .i64 a1] w fun e w' => e = .returned (.bool r) ∧ Drawn0 w w' := by
 have H : ((impl_arePeople.f a0).bind fun t488 => (if t488 = true then (if a1 ≥ 0 then (if 0 ≤ a0 then (some (decide (a1 < (shl .i64 1 a0)))) else (none)) else (some false)) else (some false))) = some r := h
 clear h
 replace H := Option.bind_eq_some_iff.mp H
 obtain ⟨t488, A30, H⟩ := H
 try dsimp only at H
 have A3 := Aside0.mk A30
 clear A30
 by_cases c4 : t488 = true
 {
 subst c4
 rw [if_pos rfl] at H
 by_cases c5 : a1 ≥ 0
 {
 rw [if_pos c5] at H
 have c5b0 : decide (0 ≤ a1) = true := decide_eq_true c5
 clear c5
 by_cases c6 : 0 ≤ a0
 {
 rw [if_pos c6] at H
 have c6b0 := eq_true c6
 have c6b1 : decide (0 ≤ a0) = true := decide_eq_true c6
 clear c6
 obtain ⟨ji7, hji7⟩ : ∃ j_ : Int, (shl .i64 1 a0) = j_ := ⟨_, rfl⟩
 replace H : (some (decide (a1 < (ji7)))) = some r := by first | (rw [hji7] at H; exact H) | (simp only [hji7] at H ⊢; exact H)
 (try rw [hji7] at A3)
 have hji7_ : (IntKind.i64.wrap (1 * 2 ^ min a0.toNat 64)) = ji7 := hji7
 have hji7z : a0 ≤ 64 → (IntKind.i64.wrap (1 * 2 ^ a0.toNat)) = ji7 := shl_small hji7
 have hji7u : (IntKind.i64.wrap (2 ^ min a0.toNat 64)) = ji7 := by have h_ := hji7_; rw [Int.one_mul] at h_; exact h_
 have hji7v : a0 ≤ 64 → (IntKind.i64.wrap (2 ^ a0.toNat)) = ji7 := fun hle_ => by have h_ := hji7z hle_; rw [Int.one_mul] at h_; exact h_
 have hji7y : (wrap64 (1 * 2 ^ min a0.toNat 64)) = ji7 := (i64_w _).symm.trans hji7_
 have hji7x : a0 ≤ 64 → (wrap64 (1 * 2 ^ a0.toNat)) = ji7 := fun h_ => (i64_w _).symm.trans (hji7z h_)
 obtain rfl := Option.some.inj H
 go_enter Tryd.func46, Tryd.ntmps46
 go_wp2_with (first | ((with_reducible refine gate_callee (f := 57) rfl ?_); refine goesL_ (some 6) rfl rfl Tryd.func57 (by kernel_rfl) rfl #[.int .i64 a0] rfl zcj_3 ?_; (with_reducible refine (impl_arePeople.calls a0 true _ A3.out).mono ?_); rintro e w' ⟨rfl, ⟨nd, rfl⟩⟩; refine ⟨_, rfl, ?_⟩))
 go_ret
 exact ⟨by first | rfl | (simp; done) | (simp only [← hji7] <;> (first | rfl | simp)) | (simp [*]; done), zcj_21⟩
 }
 {
 rw [if_neg c6] at H
 exact absurd H (by simp)
 }
 }
 {
 rw [if_neg c5] at H
 have c5b0 : decide (0 ≤ a1) = false := decide_eq_false c5
 clear c5
 obtain rfl := Option.some.inj H
 go_enter Tryd.func46, Tryd.ntmps46
 go_wp2_with (first | ((with_reducible refine gate_callee (f := 57) rfl ?_); refine goesL_ (some 6) rfl rfl Tryd.func57 (by kernel_rfl) rfl #[.int .i64 a0] rfl zcj_3 ?_; (with_reducible refine (impl_arePeople.calls a0 true _ A3.out).mono ?_); rintro e w' ⟨rfl, ⟨nd, rfl⟩⟩; refine ⟨_, rfl, ?_⟩))
 go_ret
 exact ⟨zcj_4, zcj_21⟩
 }
 }
 {
 replace c4 := Bool.eq_false_iff.mpr c4
 subst c4
 rw [if_neg (show ¬ (false = true) by decide)] at H
 obtain rfl := Option.some.inj H
 go_enter Tryd.func46, Tryd.ntmps46
 go_wp2_with (first | ((with_reducible refine gate_callee (f := 57) rfl ?_); refine goesL_ (some 6) rfl rfl Tryd.func57 (by kernel_rfl) rfl #[.int .i64 a0] rfl zcj_3 ?_; (with_reducible refine (impl_arePeople.calls a0 false _ A3.out).mono ?_); rintro e w' ⟨rfl, ⟨nd, rfl⟩⟩; refine ⟨_, rfl, ?_⟩))
 go_ret
 exact ⟨zcj_4, zcj_21⟩
 }
end Go.Proofs.YtnkfbappnpnaoaaDoor.Q
namespace Go.Proofs.YtnkfbappnpnaoaaDoor.Q
open Go.RowKit Go.Proofs.YtnkfbappnpnaoaaDoorW.PrintWords Go.Proofs.YtnkfbappnpnaoaaDoorW.PrintLast Go.Proofs.YtnkfbappnpnaoaaDoorW.PrintMore
attribute [local go_sem] max2_int min2_int max_two min_two max_three min_three max_four min_four   -- for this text's walks alone
set_option linter.unusedVariables false
set_option linter.unusedSimpArgs false
def impl_CrowdOk.f (a0 : Int) (a1 : Int) : Option (Bool) := (impl_isCrowd.f a0 a1).bind fun t489 => (some t489)
set_option maxHeartbeats 8000000 in
set_option maxRecDepth 100000 in
theorem impl_CrowdOk.calls (a0 : Int) (a1 : Int) (r : Bool) (w : World) (h : impl_CrowdOk.f a0 a1 = some r) :
    Calls Tryd.prog 32 #[.int .i64 a0, .int .i64 a1] w fun e w' => e = .returned (.bool r) ∧ Drawn0 w w' := by
 have H : ((impl_isCrowd.f a0 a1).bind fun t489 => (some t489)) = some r := h
 clear h
 replace H := Option.bind_eq_some_iff.mp H
 obtain ⟨t489, A30, H⟩ := H
 try dsimp only at H
 have A3 := Aside0.mk A30
 clear A30
 obtain rfl := Option.some.inj H
 go_enter Tryd.func32, Tryd.ntmps32
 go_wp2_with (first | ((with_reducible refine gate_callee (f := 46) rfl ?_); refine goesL_ (some 7) rfl rfl Tryd.func46 (by kernel_rfl) rfl #[.int .i64 a0, .int .i64 a1] rfl zcj_3 ?_; (with_reducible refine (impl_isCrowd.calls a0 a1 t489 _ A3.out).mono ?_); rintro e w' ⟨rfl, ⟨nd, rfl⟩⟩; refine ⟨_, rfl, ?_⟩))
 go_ret
 exact ⟨zcj_4, zcj_21⟩
end Go.Proofs.YtnkfbappnpnaoaaDoor.Q
namespace Go.Proofs.YtnkfbappnpnaoaaDoor.Q
open Go.RowKit Go.Proofs.YtnkfbappnpnaoaaDoorW.PrintWords Go.Proofs.YtnkfbappnpnaoaaDoorW.PrintLast Go.Proofs.YtnkfbappnpnaoaaDoorW.PrintMore
attribute [local go_sem] max2_int min2_int max_two min_two max_three min_three max_four min_four   -- for this text's walks alone
set_option linter.unusedVariables false
set_option linter.unusedSimpArgs false
def laws_alive.f  : Option (Bool) := (impl_CrowdOk.f 2 3).bind fun t490 => (if t490 = true then ((impl_CrowdOk.f 2 4).bind fun t491 => (some (!t491))) else (some false))
set_option maxHeartbeats 8000000 in
set_option maxRecDepth 100000 in
theorem laws_alive.calls  (r : Bool) (w : World) (h : laws_alive.f  = some r) :
    Calls Tryd.prog 15 #[] w fun e w' => e = .returned (.bool r) ∧ Drawn0 w w' := by
 have H : ((impl_CrowdOk.f 2 3).bind fun t490 => (if t490 = true then ((impl_CrowdOk.f 2 4).bind fun t491 => (some (!t491))) else (some false))) = some r := h
 clear h
 replace H := Option.bind_eq_some_iff.mp H
 obtain ⟨t490, A10, H⟩ := H
 try dsimp only at H
 have A1 := Aside0.mk A10
 clear A10
 by_cases c2 : t490 = true
 {
 subst c2
 rw [if_pos rfl] at H
 replace H := Option.bind_eq_some_iff.mp H
 obtain ⟨t491, A30, H⟩ := H
 try dsimp only at H
 have A3 := Aside0.mk A30
 clear A30
 obtain rfl := Option.some.inj H
 go_enter Tryd.func15, Tryd.ntmps15
 go_wp2_with (first | ((with_reducible refine gate_callee (f := 32) rfl ?_); refine goesL_ (some 1) rfl rfl Tryd.func32 (by kernel_rfl) rfl #[.int .i64 2, .int .i64 3] rfl zcj_3 ?_; (with_reducible refine (impl_CrowdOk.calls 2 3 true _ A1.out).mono ?_); rintro e w' ⟨rfl, ⟨nd, rfl⟩⟩; refine ⟨_, rfl, ?_⟩) | (go_at_call 32; (with_reducible refine (impl_CrowdOk.calls 2 4 t491 _ A3.out).mono ?_); rintro e w' ⟨rfl, ⟨nd, rfl⟩⟩))
 go_ret
 exact ⟨zcj_4, zcj_21⟩
 }
 {
 replace c2 := Bool.eq_false_iff.mpr c2
 subst c2
 rw [if_neg (show ¬ (false = true) by decide)] at H
 obtain rfl := Option.some.inj H
 go_enter Tryd.func15, Tryd.ntmps15
 go_wp2_with (first | ((with_reducible refine gate_callee (f := 32) rfl ?_); refine goesL_ (some 1) rfl rfl Tryd.func32 (by kernel_rfl) rfl #[.int .i64 2, .int .i64 3] rfl zcj_3 ?_; (with_reducible refine (impl_CrowdOk.calls 2 3 false _ A1.out).mono ?_); rintro e w' ⟨rfl, ⟨nd, rfl⟩⟩; refine ⟨_, rfl, ?_⟩))
 go_ret
 exact ⟨zcj_4, zcj_21⟩
 }
end Go.Proofs.YtnkfbappnpnaoaaDoor.Q
namespace Go.Proofs.YtnkfbappnpnaoaaDoor.Q
open Go.RowKit Go.Proofs.YtnkfbappnpnaoaaDoorW.PrintWords Go.Proofs.YtnkfbappnpnaoaaDoorW.PrintLast Go.Proofs.YtnkfbappnpnaoaaDoorW.PrintMore
attribute [local go_sem] max2_int min2_int max_two min_two max_three min_three max_four min_four   -- for this text's walks alone
set_option linter.unusedVariables false
set_option linter.unusedSimpArgs false
theorem dText_size (k a b : Int) (z : ByteArray) : (dText k a b z).size ≤ z.size + 12 := by
  have e0 : (⟨#[]⟩ : ByteArray).size = 0 := rfl
  have s5 : (⟨#[98, 111, 100, 121, 32]⟩ : ByteArray).size = 5 := rfl
  have s4 : (⟨#[114, 117, 108, 101, 32]⟩ : ByteArray).size = 5 := rfl
  have s6 : (⟨#[97, 109, 101, 110, 100, 32]⟩ : ByteArray).size = 6 := rfl
  have s7 : (⟨#[100, 114, 111, 112, 32]⟩ : ByteArray).size = 5 := rfl
  have s8 : (⟨#[32]⟩ : ByteArray).size = 1 := rfl
  have s9 : (⟨#[98, 97, 99, 107]⟩ : ByteArray).size = 4 := rfl
  unfold dText
  split
  · omega
  rename_i hr
  have hr := Classical.not_not.1 hr
  have h1 := numB_size a hr.1 hr.2.1
  have h2 := numB_size b hr.2.2.1 hr.2.2.2
  split
  · rw [app_size]; omega
  split
  · rw [app_size]; omega
  split
  · simp only [app_size]; omega
  split
  · simp only [app_size]; omega
  split
  · omega
  · omega
theorem deedText_tot (k a b : Int) (z : ByteArray) (hz : z.size < 4294967281) : Tot (fun n => spec_DeedText.f n k a b z) (fun t => t = dText k a b z) := Tot.ev (specDeedText_ev k a b z hz) rfl
theorem alive_eq : laws_alive.f = some true := by decide +kernel
end Go.Proofs.YtnkfbappnpnaoaaDoor.Q
namespace Go.Proofs.YtnkfbappnpnaoaaDoor.Q
open Go.RowKit Go.Proofs.YtnkfbappnpnaoaaDoorW.PrintWords Go.Proofs.YtnkfbappnpnaoaaDoorW.PrintLast Go.Proofs.YtnkfbappnpnaoaaDoorW.PrintMore
attribute [local go_sem] max2_int min2_int max_two min_two max_three min_three max_four min_four   -- for this text's walks alone
set_option linter.unusedVariables false
set_option linter.unusedSimpArgs false
def strings_Cut.f (a0 : ByteArray) (a1 : ByteArray) : Option (ByteArray × ByteArray × Bool) :=
  if a0.size < 4294967281 then some (⟨(Lib.cut a0.data.toList a1.data.toList).1.toArray⟩, ⟨(Lib.cut a0.data.toList a1.data.toList).2.1.toArray⟩, (Lib.cut a0.data.toList a1.data.toList).2.2) else none
theorem strings_Cut.calls (a0 : ByteArray) (a1 : ByteArray) (r1 : ByteArray) (r2 : ByteArray) (r3 : Bool) (w : World) (hG : Glob w) (h : strings_Cut.f a0 a1 = some (r1, r2, r3)) :
    Calls Tryd.prog 40 #[.string a0, .string a1] w fun e w' => e = .returned (.tuple #[.string r1, .string r2, .bool r3]) ∧ Drawn0 w w' := by
  unfold strings_Cut.f at h
  split at h
  · rename_i hc
    simp only [Option.some.injEq, Prod.mk.injEq] at h
    obtain ⟨rfl, rfl, rfl⟩ := h
    obtain ⟨m, hm⟩ := hG.mx
    refine (Any.strings_Cut Tryd.lays145 a0 a1 m w hc hm).mono ?_
    rintro e w' ⟨rfl, hw⟩
    exact ⟨rfl, ⟨hw⟩⟩
  · simp at h
end Go.Proofs.YtnkfbappnpnaoaaDoor.Q
