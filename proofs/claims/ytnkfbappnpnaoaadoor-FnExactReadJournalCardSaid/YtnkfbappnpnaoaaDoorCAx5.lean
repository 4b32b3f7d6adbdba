/- A part of this claim's proof: functions of the program as plain functions, with the proof that the code comes to their answers, and facts about them. Condition: none of its own. -/
import Derived.Lib.CountLaws
import Derived.Lib.IndexBytes
import Derived.Lib.ItoaNum
import Derived.Lib.SplitLaws
import Derived.Test.YtnkfbappnpnaoaaDoorCAx1
namespace Go.Proofs.YtnkfbappnpnaoaaDoor.Q
open Go.RowKit Go.Proofs.YtnkfbappnpnaoaaDoorW.PrintWords Go.Proofs.YtnkfbappnpnaoaaDoorW.PrintLast Go.Proofs.YtnkfbappnpnaoaaDoorW.PrintMore
attribute [local go_sem] max2_int min2_int max_two min_two max_three min_three max_four min_four   -- for this text's walks alone
set_option linter.unusedVariables false
set_option linter.unusedSimpArgs false

/-! The plain law: texts cut at a byte, in plain Lean, no program in sight. -/
theorem index_one (c : UInt8) : ∀ l : List UInt8, Lib.index l [c] = Lib.indexByte l c
  | [] => rfl
  | b :: l => by
    unfold Lib.index Lib.indexByte
    rw [index_one c l]
    by_cases h : b = c
    · subst h; simp [List.isPrefixOf]
    · have h2 : ¬ c = b := fun e => h e.symm
      simp [List.isPrefixOf, h, h2]
theorem indexByte_miss {c : UInt8} : ∀ {l : List UInt8}, c ∉ l → Lib.indexByte l c = -1
  | [], _ => rfl
  | b :: l, h => by
    have h1 : b ≠ c := fun e => h (by simp [e])
    have h2 : c ∉ l := fun e => h (by simp [e])
    unfold Lib.indexByte
    rw [indexByte_miss h2]
    simp [h1]
theorem indexByte_at {c : UInt8} (r : List UInt8) : ∀ {l : List UInt8}, c ∉ l → Lib.indexByte (l ++ c :: r) c = (l.length : Int)
  | [], _ => by simp [Lib.indexByte]
  | b :: l, h => by
    have h1 : b ≠ c := fun e => h (by simp [e])
    have h2 : c ∉ l := fun e => h (by simp [e])
    show Lib.indexByte (b :: (l ++ c :: r)) c = _
    unfold Lib.indexByte
    rw [indexByte_at r h2]
    have : ¬ ((l.length : Int) = -1) := by omega
    simp [h1, this]
/-- Words with a byte between them. -/
def joinL (c : UInt8) : List (List UInt8) → List UInt8
  | [] => []
  | [w] => w
  | w :: ws => w ++ c :: joinL c ws
theorem joinL_cons (c : UInt8) (w v : List UInt8) (ws : List (List UInt8)) : joinL c (w :: v :: ws) = w ++ c :: joinL c (v :: ws) := rfl
theorem split_joinL (c : UInt8) : ∀ (ws : List (List UInt8)), ws ≠ [] → (∀ w ∈ ws, c ∉ w) → Lib.split (joinL c ws) [c] = ws
  | [], h, _ => absurd rfl h
  | [w], _, hw => by
    have hi : Lib.index w [c] = -1 := by rw [index_one]; exact indexByte_miss (hw w (by simp))
    show Lib.splitK _ 0 (Lib.count w [c]) w = _
    rw [Lib.count_miss hi]
    rfl
  | w :: v :: ws, _, hw => by
    have ih := split_joinL c (v :: ws) (by simp) (fun x hx => hw x (by simp at hx ⊢; exact Or.inr hx))
    have hi : Lib.index (w ++ c :: joinL c (v :: ws)) [c] = (w.length : Int) := by rw [index_one]; exact indexByte_at _ (hw w (by simp))
    rw [joinL_cons]
    show Lib.splitK _ 0 (Lib.count _ [c]) _ = _
    rw [Lib.count_hit (by simp) hi]
    have hd : (w ++ c :: joinL c (v :: ws)).drop (w.length + [c].length) = joinL c (v :: ws) := by
      rw [List.drop_append, List.drop_eq_nil_of_le (by simp)]
      simp
    rw [hd, Nat.add_comm]
    unfold Lib.splitK
    rw [hi, Int.toNat_natCast, hd, if_neg (by simp)]
    have : Lib.splitK [c] 0 (Lib.count (joinL c (v :: ws)) [c]) (joinL c (v :: ws)) = v :: ws := ih
    rw [this]
    simp
def bs (l : List UInt8) : ByteArray := ⟨l.toArray⟩
theorem bs_toList (l : List UInt8) : (bs l).toList = l := (Lib.toList_data _).trans rfl
theorem bs_data (l : List UInt8) : (bs l).data.toList = l := rfl
theorem bs_of (s : ByteArray) : bs s.toList = s := by rw [Lib.toList_data]; cases s; rfl
theorem toList_inj {a b : ByteArray} (h : a.toList = b.toList) : a = b := by rw [← bs_of a, ← bs_of b, h]
theorem splitB_join (ws : List (List UInt8)) (h : ws ≠ []) (hw : ∀ w ∈ ws, (32 : UInt8) ∉ w) (s : ByteArray) (hs : s.toList = joinL 32 ws) :
    Lib.splitB ⟨#[32]⟩ 0 (Lib.countB s ⟨#[32]⟩) s = ws.map bs := by
  have h1 := Lib.splitB_data ⟨#[32]⟩ 0 (Lib.countB s ⟨#[32]⟩) s
  have h2 : Lib.splitK (⟨#[32]⟩ : ByteArray).data.toList 0 (Lib.countB s ⟨#[32]⟩) s.data.toList = ws := by
    rw [← Lib.toList_data s]
    show Lib.splitK [32] 0 (Lib.count s.data.toList [32]) s.toList = ws
    rw [← Lib.toList_data s, hs]
    exact split_joinL 32 ws h hw
  rw [h2] at h1
  have : (Lib.splitB ⟨#[32]⟩ 0 (Lib.countB s ⟨#[32]⟩) s) = ((Lib.splitB ⟨#[32]⟩ 0 (Lib.countB s ⟨#[32]⟩) s).map (·.data.toList)).map bs := by
    rw [List.map_map]
    symm
    apply List.map_id''
    intro x
    show bs x.data.toList = x
    cases x; rfl
  rw [this, h1]
/-- The decimal text of a number below 100. -/
def num2 (a : Nat) : List UInt8 := if a < 10 then [UInt8.ofNat (48 + a)] else [UInt8.ofNat (48 + a / 10), UInt8.ofNat (48 + a % 10)]
theorem decDigits_num2 (a : Nat) (h : a < 100) : Lib.decDigits a = num2 a := by
  unfold Lib.decDigits num2
  by_cases h1 : a < 10
  · simp [h1]
  · have h2 : a / 10 < 10 := by omega
    unfold Lib.decDigits
    simp [h1, h2]
theorem num2_nosp : ∀ a : Fin 100, (32 : UInt8) ∉ num2 a.val := by decide +kernel
theorem num2_nonl : ∀ a : Fin 100, (10 : UInt8) ∉ num2 a.val := by decide +kernel
theorem num2_len : ∀ a : Fin 100, (num2 a.val).length ≤ 2 ∧ 0 < (num2 a.val).length := by decide +kernel
/-! What a function gives from some number of rounds on. -/
def Ev {α : Type} (f : Nat → Option α) (v : α) : Prop := ∃ k0, ∀ k, k0 ≤ k → f k = some v
theorem Ev.const {α : Type} (v : α) : Ev (fun _ => some v) v := ⟨0, fun _ _ => rfl⟩
theorem Ev.bind {α β : Type} {f : Nat → Option α} {g : Nat → α → Option β} {a : α} {b : β} (h : Ev f a) (h2 : Ev (fun k => g k a) b) : Ev (fun k => (f k).bind (g k)) b := by
  obtain ⟨k1, h1⟩ := h
  obtain ⟨k2, h2⟩ := h2
  exact ⟨max k1 k2, fun k hk => by show (f k).bind (g k) = _; rw [h1 k (by omega)]; exact h2 k (by omega)⟩
theorem Ev.succ {α : Type} {f g : Nat → Option α} {v : α} (h : ∀ k, f (k + 1) = g k) (hg : Ev g v) : Ev f v := by
  obtain ⟨k0, h0⟩ := hg
  refine ⟨k0 + 1, fun k hk => ?_⟩
  obtain ⟨m, rfl⟩ : ∃ m, k = m + 1 := ⟨k - 1, by omega⟩
  rw [h]
  exact h0 m (by omega)
theorem Ev.congr {α : Type} {f g : Nat → Option α} {v : α} (h : ∀ k, f k = g k) (hg : Ev g v) : Ev f v := by
  obtain ⟨k0, h0⟩ := hg
  exact ⟨k0, fun k hk => by rw [h]; exact h0 k hk⟩
theorem Ev.uniq {α : Type} {f : Nat → Option α} {u v : α} (h : Ev f u) (h2 : Ev f v) : u = v := by
  obtain ⟨k1, h1⟩ := h
  obtain ⟨k2, h2⟩ := h2
  have a := h1 (max k1 k2) (by omega)
  have b := h2 (max k1 k2) (by omega)
  rw [a] at b
  exact Option.some.inj b
theorem Ev.of_mono {α : Type} {f : Nat → Option α} {v : α} {k0 : Nat} (m : ∀ k r, f k = some r → f (k + 1) = some r) (h : f k0 = some v) : Ev f v := by
  refine ⟨k0, fun k hk => ?_⟩
  obtain ⟨d, rfl⟩ : ∃ d, k = k0 + d := ⟨k - k0, by omega⟩
  clear hk
  induction d with
  | zero => exact h
  | succ d ih => exact m _ _ ih
theorem Ev.run {α : Type} {f : Nat → Option α} {v : α} (h : Ev f v) : ∃ k, f k = some v := by
  obtain ⟨k, h⟩ := h
  exact ⟨k, h k (Nat.le_refl _)⟩
end Go.Proofs.YtnkfbappnpnaoaaDoor.Q
