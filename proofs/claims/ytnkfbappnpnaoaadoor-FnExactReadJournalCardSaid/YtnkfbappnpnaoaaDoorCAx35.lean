/- A part of this claim's proof: functions of the program as plain functions, with the proof that the code comes to their answers, and facts about them. Condition: none of its own. -/
import Derived.Lib.IndexLaws
import Derived.Test.YtnkfbappnpnaoaaDoorCAx1
import Derived.Test.YtnkfbappnpnaoaaDoorCAx31
import Derived.Test.YtnkfbappnpnaoaaDoorCAx4
import Derived.Test.YtnkfbappnpnaoaaDoorCAx5
import Derived.Test.YtnkfbappnpnaoaaDoorCAx22
import Derived.Test.YtnkfbappnpnaoaaDoorCAx26
import Derived.Test.YtnkfbappnpnaoaaDoorCAx28
import Derived.Test.YtnkfbappnpnaoaaDoorCAx19
import Derived.Test.YtnkfbappnpnaoaaDoorCAx33
import Derived.Test.YtnkfbappnpnaoaaDoorCAx32
import Derived.Test.YtnkfbappnpnaoaaDoorCAx27
import Derived.Test.YtnkfbappnpnaoaaDoorCAx34
namespace Go.Proofs.YtnkfbappnpnaoaaDoor.Q
open Go.RowKit Go.Proofs.YtnkfbappnpnaoaaDoorW.PrintWords Go.Proofs.YtnkfbappnpnaoaaDoorW.PrintLast Go.Proofs.YtnkfbappnpnaoaaDoorW.PrintMore
attribute [local go_sem] max2_int min2_int max_two min_two max_three min_three max_four min_four   -- for this text's walks alone
set_option linter.unusedVariables false
set_option linter.unusedSimpArgs false

/-! The plain law: journals; and what the laws ask of rows of deeds: marks and sameness. -/
theorem index_nl (l : List UInt8) : (Lib.indexByte l 10 = -1 ∧ ∀ k : Nat, l[k]? ≠ some 10) ∨ ∃ o : Nat, Lib.indexByte l 10 = o ∧ l[o]? = some 10 ∧ ∀ k, k < o → l[k]? ≠ some 10 := by
  have hge := Lib.indexByte_ge l 10
  by_cases h : Lib.indexByte l 10 = -1
  · exact Or.inl ⟨h, Lib.indexByte_none h⟩
  · obtain ⟨o, ho⟩ : ∃ o : Nat, Lib.indexByte l 10 = o := ⟨(Lib.indexByte l 10).toNat, by omega⟩
    exact Or.inr ⟨o, ho, Lib.indexByte_some ho⟩
theorem wrA (o : Nat) (h : o < 1048577) : wrap64 ((o : Int) + 1) = (o : Int) + 1 := w64 _ (by omega) (by omega)
theorem wrB (a o : Nat) (h : a + o < 1048577) : wrap64 ((a : Int) + ((o : Int) + 1)) = ((a + o + 1 : Nat) : Int) := (w64 _ (by omega) (by omega)).trans (by omega)
theorem wrC (a : Nat) (h : a < 1048577) : wrap64 ((a : Int) + 1) = ((a + 1 : Nat) : Int) := (w64 _ (by omega) (by omega)).trans (by omega)
abbrev JR := List S30 × Int
theorem skip_nl (s : ByteArray) (hs : s.size < 4294967281) (out : List S30) (fr : Int) (R : JR) : ∀ (n q p : Nat), p - q = n → q ≤ p → p ≤ s.size → (∀ j, q ≤ j → j < p → s.toList[j]? ≠ some 10) →
    Ev (fun k => spec_ReadJournal.l0 k s out fr (p : Int)) R → Ev (fun k => spec_ReadJournal.l0 k s out fr (q : Int)) R
  | 0, q, p, hn, hq, hp, hj, h => by
    have e : q = p := by omega
    subst e
    exact h
  | n + 1, q, p, hn, hq, hp, hj, h => by
    have hlt : q < s.size := by omega
    have hlt2 : q < s.toList.length := by rw [toList_len]; exact hlt
    have hwr : wrap64 ((q : Int) + 1) = ((q + 1 : Nat) : Int) := by rw [w64 _ (by omega) (by omega)]; omega
    have ih := skip_nl s hs out fr R n (q + 1) p (by omega) (by omega) hp (fun j h1 h2 => hj j (by omega) h2) h
    refine Ev.succ (g := fun k => spec_ReadJournal.l0 k s out fr ((q + 1 : Nat) : Int)) (fun k => ?_) ih
    have hb := bt_u8 s q hlt2 10
    have h10 : ((10 : UInt8).toNat : Int) = 10 := rfl
    rw [h10] at hb
    have hne : ¬ bt s (q : Int) = 10 := fun e => hj q (Nat.le_refl _) (by omega) (by rw [List.getElem?_eq_getElem hlt2, hb.1 e])
    simp only [spec_ReadJournal.l0, hwr]
    rw [if_pos (by omega), if_pos (by omega), if_neg hne]
def asS (R : D5) : S30 := ⟨R.1, R.2.1, R.2.2.1, R.2.2.2.1⟩
theorem cut_nl_none {l : List UInt8} (h : Lib.indexByte l 10 = -1) : Lib.cut l [10] = (l, [], false) := by
  unfold Lib.cut
  rw [index_one, h]
  rfl
theorem cut_nl_at {l : List UInt8} {o : Nat} (h : Lib.indexByte l 10 = o) : (Lib.cut l [10]).1 = l.take o ∧ (Lib.cut l [10]).2.2 = true := by
  unfold Lib.cut
  rw [index_one, h, if_pos (by omega)]
  simp
theorem cutf_none (t : ByteArray) (h : t.size < 4294967281) (l : List UInt8) (hl : t.data.toList = l) (hi : Lib.indexByte l 10 = -1) : strings_Cut.f t (⟨#[10]⟩ : ByteArray) = some (bs l, ⟨#[]⟩, false) := by
  unfold strings_Cut.f
  rw [if_pos h, hl, show (⟨#[10]⟩ : ByteArray).data.toList = [10] from rfl, cut_nl_none hi]
  rfl
theorem cutf_at (t : ByteArray) (h : t.size < 4294967281) (l : List UInt8) (hl : t.data.toList = l) {o : Nat} (hi : Lib.indexByte l 10 = o) : ∃ x, strings_Cut.f t (⟨#[10]⟩ : ByteArray) = some (bs (l.take o), x, true) := by
  unfold strings_Cut.f
  obtain ⟨c1, c2⟩ := cut_nl_at hi
  rw [if_pos h, hl, show (⟨#[10]⟩ : ByteArray).data.toList = [10] from rfl, c1, c2]
  exact ⟨_, rfl⟩
theorem drop_get (l : List UInt8) (a k : Nat) : (l.drop a)[k]? = l[a + k]? := by simp
theorem extr_data (s : ByteArray) (fr : Nat) : (s.extract fr s.size).data.toList = s.toList.drop fr := by rw [← Lib.toList_data, ext_end]
theorem extr_size (s : ByteArray) (fr : Nat) : (s.extract fr s.size).size ≤ s.size := by rw [ByteArray.size_extract]; omega
theorem bs_drop_size (s : ByteArray) (fr : Nat) : (bs (s.toList.drop fr)).size ≤ s.size := by
  have : (bs (s.toList.drop fr)).size = (s.toList.drop fr).length := rfl
  rw [this, List.length_drop, toList_len]
  exact Nat.sub_le _ _
theorem impl_step_none (s : ByteArray) (hs : s.size ≤ 1048576) (out : List S30) (fr : Nat) (hf : fr ≤ s.size) (hi : Lib.indexByte (s.toList.drop fr) 10 = -1) (k : Nat) : impl_readJournal.l0 (k + 1) s out (fr : Int) = some (out, (fr : Int)) := by
  have h1 := extr_size s fr
  have h2 := bs_drop_size s fr
  obtain ⟨R1, hR1, _⟩ := readDeed_tot (bs (s.toList.drop fr)) (by omega)
  have hcut := cutf_none (s.extract fr s.size) (by omega) _ (extr_data s fr) hi
  rw [impl_readJournal.l0]
  rw [if_pos (by omega), if_pos (by omega), Int.toNat_natCast, hcut, Option.bind_some, hR1, Option.bind_some, if_neg Bool.false_ne_true]
theorem spec_step_none (s : ByteArray) (out : List S30) (fr : Int) (k : Nat) : spec_ReadJournal.l0 (k + 1) s out fr (s.size : Int) = some (out, fr) := by
  unfold spec_ReadJournal.l0
  rw [if_neg (Int.lt_irrefl _)]
theorem impl_step_at (s : ByteArray) (hs : s.size ≤ 1048576) (out : List S30) (fr o : Nat) (hlt : fr + o < s.size) (ho : out.length ≤ fr) (hi : Lib.indexByte (s.toList.drop fr) 10 = o) (R1 : D5) (hR1 : impl_readDeed.f (s.extract fr (fr + o)) = some R1) (k : Nat) :
    impl_readJournal.l0 (k + 1) s out (fr : Int) = if R1.2.2.2.2 = true then impl_readJournal.l0 k s (out ++ [asS R1]) ((fr + o + 1 : Nat) : Int) else some (out, (fr : Int)) := by
  have h1 := extr_size s fr
  have hline : bs ((s.toList.drop fr).take o) = s.extract fr (fr + o) := by
    apply toList_inj
    rw [bs_toList, ext_toList, List.drop_take]
    congr 1
    omega
  have hlsz : (s.extract fr (fr + o)).size = o := by rw [ByteArray.size_extract]; omega
  obtain ⟨x, hcut⟩ := cutf_at (s.extract fr s.size) (by omega) _ (extr_data s fr) hi
  rw [hline] at hcut
  rw [impl_readJournal.l0]
  rw [if_pos (by omega), if_pos (by omega), Int.toNat_natCast, hcut, Option.bind_some, hR1, Option.bind_some, if_pos rfl]
  dsimp only
  rw [hlsz, wrA o (by omega), wrB fr o (by omega), if_pos (show out.length < 3518437208883 by omega)]
  rfl
theorem spec_step_at (s : ByteArray) (hs : s.size ≤ 1048576) (out : List S30) (fr o : Nat) (hlt : fr + o < s.size) (ho : out.length ≤ fr) (hb : bt s ((fr + o : Nat) : Int) = 10) (k : Nat) :
    spec_ReadJournal.l0 (k + 1) s out (fr : Int) ((fr + o : Nat) : Int) = (spec_ReadDeed.f k (s.extract fr (fr + o))).bind fun R1 => if R1.2.2.2.2 = true then spec_ReadJournal.l0 k s (out ++ [asS R1]) ((fr + o + 1 : Nat) : Int) ((fr + o + 1 : Nat) : Int) else some (out, (fr : Int)) := by
  rw [spec_ReadJournal.l0]
  rw [if_pos (by omega), if_pos (by omega), if_pos hb, if_pos (by omega), if_pos (by omega), if_pos (by omega), Int.toNat_natCast, Int.toNat_natCast, wrC (fr + o) (by omega)]
  congr 1
  funext R1
  rw [if_pos (show out.length < 3518437208883 by omega)]
  rfl
/-- The program and the reference read the same deeds of a journal. -/
theorem journal_loop (s : ByteArray) (hs : s.size ≤ 1048576) : ∀ (n : Nat) (out : List S30) (fr : Nat), s.size - fr < n → fr ≤ s.size → out.length ≤ fr →
    ∃ R : JR, Ev (fun k => impl_readJournal.l0 k s out (fr : Int)) R ∧ Ev (fun k => spec_ReadJournal.l0 k s out (fr : Int) (fr : Int)) R ∧ R.1.length ≤ s.size ∧ 0 ≤ R.2 ∧ R.2 ≤ s.size
  | 0, out, fr, hn, hf, ho => absurd hn (Nat.not_lt_zero _)
  | n + 1, out, fr, hn, hf, ho => by
    have hb4 : s.size < 4294967281 := Nat.lt_of_le_of_lt hs (by decide)
    have hstop : out.length ≤ s.size ∧ (0 : Int) ≤ (fr : Int) ∧ (fr : Int) ≤ s.size := ⟨Nat.le_trans ho hf, by omega, by omega⟩
    rcases index_nl (s.toList.drop fr) with ⟨hi, hno⟩ | ⟨o, hi, hat, hno⟩
    · refine ⟨(out, (fr : Int)), Ev.succ (impl_step_none s hs out fr hf hi) (Ev.const _), ?_, hstop⟩
      refine skip_nl s hb4 out _ _ (s.size - fr) fr s.size rfl hf (Nat.le_refl _) (fun j h1 h2 => ?_) (Ev.succ (spec_step_none s out fr) (Ev.const _))
      have := hno (j - fr)
      rw [drop_get, show fr + (j - fr) = j by omega] at this
      exact this
    · rw [drop_get] at hat
      obtain ⟨hlt, hat2⟩ := List.getElem?_eq_some_iff.1 hat
      have hlt3 : fr + o < s.size := by rw [← toList_len]; exact hlt
      have hb : bt s ((fr + o : Nat) : Int) = 10 := (bt_u8 s (fr + o) hlt 10).2 hat2
      obtain ⟨R1, hR1, hE1, hRd⟩ := readDeed_same (s.extract fr (fr + o)) (by rw [ByteArray.size_extract]; omega)
      have hI := impl_step_at s hs out fr o hlt3 ho hi R1 hR1
      have hS := spec_step_at s hs out fr o hlt3 ho hb
      have hskip := fun R h => skip_nl s hb4 out (fr : Int) R o fr (fr + o) (Nat.add_sub_cancel_left _ _) (Nat.le_add_right _ _) (Nat.le_of_lt hlt3) (fun j h1 h2 => by
        have := hno (j - fr) (by omega)
        rwa [drop_get, show fr + (j - fr) = j by omega] at this) h
      clear hat hat2 hno hi hb
      by_cases ht : R1.2.2.2.2 = true
      · obtain ⟨R, h1, h2, h3⟩ := journal_loop s hs n (out ++ [asS R1]) (fr + o + 1) (by omega) (by omega) (by simp; omega)
        refine ⟨R, Ev.succ hI ?_, hskip R (Ev.succ hS (Ev.bind hE1 ?_)), h3⟩
        · simp only [if_pos ht]; exact h1
        · simp only [if_pos ht]; exact h2
      · refine ⟨(out, (fr : Int)), Ev.succ hI ?_, hskip _ (Ev.succ hS (Ev.bind hE1 ?_)), hstop⟩
        · simp only [if_neg ht]; exact Ev.const _
        · simp only [if_neg ht]; exact Ev.const _
theorem journal_same (s : ByteArray) (hs : s.size ≤ 1048576) : ∃ R : JR, Ev (fun k => impl_ReadJournal.f k s) R ∧ Ev (fun k => spec_ReadJournal.f k s) R ∧ R.1.length ≤ s.size := by
  obtain ⟨R, h1, h2, h3, _⟩ := journal_loop s hs (s.size + 1) [] 0 (by omega) (Nat.zero_le _) (Nat.zero_le _)
  refine ⟨R, ?_, h2, h3⟩
  unfold impl_ReadJournal.f
  exact Ev.bind (f := fun k => impl_readJournal.f k s) h1 (Ev.const _)
end Go.Proofs.YtnkfbappnpnaoaaDoor.Q
