/- A part of this claim's proof: functions of the program as plain functions, with the proof that the code comes to their answers, and facts about them. Condition: none of its own. -/
import Derived.BigQuiet
import Derived.Deep.LoopGhost
import Derived.Deep.QuietTactic
import Derived.Laws.RangeAny
import Derived.Laws.Runes
import Derived.Lib.OthersKept
import Derived.LoopTactic
import Derived.Outline
import Derived.Shelf.Small.Utf8
import Derived.Shelf.Strings.IndexAnyAll
import Derived.Test.YtnkfbappnpnaoaaDoorCAx1
import Derived.Test.YtnkfbappnpnaoaaDoorCAx6
namespace Go.Proofs.YtnkfbappnpnaoaaDoor.Q
open Go.RowKit Go.Proofs.YtnkfbappnpnaoaaDoorW.PrintWords Go.Proofs.YtnkfbappnpnaoaaDoorW.PrintLast Go.Proofs.YtnkfbappnpnaoaaDoorW.PrintMore
attribute [local go_sem] max2_int min2_int max_two min_two max_three min_three max_four min_four   -- for this text's walks alone
set_option linter.unusedVariables false
set_option linter.unusedSimpArgs false

theorem two_bytes {s : ByteArray} (h : s.size = 2) : ∃ a b : UInt8, s = ⟨#[a, b]⟩ := by
  obtain ⟨⟨l⟩⟩ := s
  match l, h with
  | [a, b], _ => exact ⟨a, b, rfl⟩
theorem below_iter (w : World) (s : ByteArray) (p : Nat) : Below w.heap.size w (w.iter s p) := (Below.refl w.heap.size w).alloc (Nat.le_refl _) _
theorem valid_eq (r : Int) : Lib.validRune r = Utf8.valid r := by
  rw [validRune_eq]
  simp only [Lib.validRune, validRune]
theorem idx_nil (s : ByteArray) (c : Int) (w : World) (h : s.data.toList = []) : Calls Tryd.prog 78 #[.string s, .int .u8 c] w fun e w' => e = .returned (.int .i64 (-1)) ∧ w' = w := by
  refine (Any.strings_IndexByte Tryd.lays137 s c w).mono ?_
  rintro e w' ⟨rfl, rfl⟩
  rw [h]
  exact ⟨rfl, rfl⟩
set_option maxHeartbeats 2000000 in
set_option maxRecDepth 100000 in
theorem indexRune_two (r : Int) (a b : UInt8) (h0 : 128 ≤ r) (h1 : r ≤ 2147483647) (he : r ≠ 65533) (hv : Utf8.valid r = true) (hE : Utf8.encode r = ⟨#[a, b]⟩) (hb : 128 ≤ b.toNat) (w : World) :
    Calls Tryd.prog 63 #[.string ⟨#[32, 10]⟩, .int .i32 r] w fun e w' => e = .returned (.int .i64 (-1)) ∧ Below w.heap.size w w' := by
  have hce : ∀ w, (convert 21 9 (.int .i32 r)).run Tryd.prog w = .ok (.string ⟨#[a, b]⟩) w := by
    intro w
    have := run_convert_int_string (P := Tryd.prog) w 21 9 .i32 r (by kernel_rfl) (by kernel_rfl)
    rw [hE] at this
    exact this
  have heb : (r == 65533) = false := beq_eq_false_iff_ne.2 he
  have hlt : decide (r < 128) = false := decide_eq_false (by omega)
  have hle : decide (0 ≤ r) = true := decide_eq_true (by omega)
  have hne : ((10 : Int) == (b.toNat : Int)) = false := beq_eq_false_iff_ne.2 (by omega)
  have hne2 : ((10 : Int) != (b.toNat : Int)) = true := by simp [bne, hne]
  have hne3 : ((((⟨#[32, 10]⟩ : ByteArray)[1]'(by decide)).toNat : Int) != (((⟨#[a, b]⟩ : ByteArray)[1]'(show (1 : Nat) < 2 by decide)).toNat : Int)) = true := hne2
  clear he hE hb
  go_enter Tryd.func63, Tryd.ntmps63
  go_wp2_with (go_at_call 79; refine (Any.utf8_ValidRune Tryd.lays119 r _).mono ?_; rintro e w' ⟨rfl, rfl⟩; rw [valid_eq, hv])
  clear heb hlt hle
  go_step3
  go_wp2_with fail
  refine wp_loop_rounds 1 ?_
  rw [rounds_succ]
  go_wp2_with fail
  go_step3
  go_wp2_with fail
  go_quiet (fail)
  go_wp2_with fail
  have hB := Aside0.mk (pw_below_drewN (Below.refl w'.heap.size w') nq)
  generalize w'.drewN nq = w2 at hB ⊢
  go_quiet ((go_at_call 78; exact Calls.quiet_of_same (idx_nil _ _ _ (by rfl))))
  go_wp2_with fail
  rw [Exit.noGoto_ret]
  go_wp2_with fail
  rw [Exit.noGoto_ret]
  go_ret
  exact ⟨rfl, pw_below_drewN hB.out _⟩
set_option maxHeartbeats 2000000 in
set_option maxRecDepth 100000 in
theorem indexRune_high (r : Int) (h0 : 128 ≤ r) (h1 : r ≤ 2147483647) (w : World) :
    Calls Tryd.prog 63 #[.string ⟨#[32, 10]⟩, .int .i32 r] w fun e w' => e = .returned (.int .i64 (-1)) ∧ Below w.heap.size w w' := by
  by_cases he : r = 65533
  · subst he
    have n0 := fun w ty => run_next_ascii (P := Tryd.prog) w ⟨#[32, 10]⟩ 0 ty (by decide) (by decide)
    have n1 := fun w ty => run_next_ascii (P := Tryd.prog) w ⟨#[32, 10]⟩ 1 ty (by decide) (by decide)
    have n2 := fun w ty => run_next_end (P := Tryd.prog) w ⟨#[32, 10]⟩ 2 ty (by decide)
    go_enter Tryd.func63, Tryd.ntmps63
    go_wp2_with fail
    refine wp_loop_rounds 3 ?_
    rw [rounds_succ]
    go_wp2_with fail
    rw [rounds_succ]
    go_wp2_with fail
    rw [rounds_succ]
    go_wp2_with fail
    go_ret
    exact ⟨rfl, below_iter _ _ _⟩
  · by_cases hv : Utf8.valid r = true
    · obtain ⟨f1, f2, f3⟩ := encode_facts r hv h0
      by_cases hs2 : (Utf8.encode r).size = 2
      · obtain ⟨a, b, hab⟩ := two_bytes hs2
        refine indexRune_two r a b h0 h1 he hv hab ?_ w
        rw [hab] at f3
        exact f3 (show (1 : Nat) < 2 by decide)
      have heb : (r == 65533) = false := beq_eq_false_iff_ne.2 he
      have hlt : decide (r < 128) = false := decide_eq_false (by omega)
      have hle : decide (0 ≤ r) = true := decide_eq_true (by omega)
      clear he
      go_enter Tryd.func63, Tryd.ntmps63
      go_wp2_with (go_at_call 79; refine (Any.utf8_ValidRune Tryd.lays119 r _).mono ?_; rintro e w' ⟨rfl, rfl⟩; rw [valid_eq, hv])
      clear heb hlt hle
      have hT : decide (((Utf8.encode r).size : Int) - 1 < 2) = false := decide_eq_false (by omega)
      clear hs2
      go_step3
      go_wp2_with fail
      refine wp_loop_rounds 1 ?_
      rw [rounds_succ]
      go_wp2
      rw [Exit.noGoto_ret]
      go_ret
      exact ⟨rfl, Below.refl _ _⟩
    · have hv2 : Utf8.valid r = false := by simpa using hv
      have heb : (r == 65533) = false := beq_eq_false_iff_ne.2 he
      have hlt : decide (r < 128) = false := decide_eq_false (by omega)
      have hle : decide (0 ≤ r) = true := decide_eq_true (by omega)
      clear he hv
      go_enter Tryd.func63, Tryd.ntmps63
      go_wp2_with (go_at_call 79; refine (Any.utf8_ValidRune Tryd.lays119 r _).mono ?_; rintro e w' ⟨rfl, rfl⟩; rw [valid_eq, hv2])
      go_ret
      exact ⟨rfl, Below.refl _ _⟩
/-- The bytes of a rune that is no ASCII are none. -/
theorem decode_bytes (s : ByteArray) (pos : Nat) (h : pos < s.size) (ha : 128 ≤ (s[pos]'h).toNat) : ∀ j, j < (Utf8.decode s pos).2 → ∃ x : UInt8, s.data.toList[pos + j]? = some x ∧ 128 ≤ x.toNat := by
  have hget : ∀ k, pos + k < s.size → s.data.toList[pos + k]? = some (s.get! (pos + k)) := by
    intro k hk
    rw [Lib.data_getElem? s (pos + k) hk]
    congr 1
    simp [ByteArray.get!, getElem!_pos, hk]
    rfl
  have h0 : 128 ≤ (s.get! (pos + 0)).toNat := by rw [get_at s pos h]; exact ha
  have hn : ¬ (s.get! (pos + 0)).toNat < 128 := by omega
  have done1 : ∀ j, j < 1 → ∃ x : UInt8, s.data.toList[pos + j]? = some x ∧ 128 ≤ x.toNat := by
    intro j hj
    obtain rfl : j = 0 := by omega
    exact ⟨_, hget 0 (by omega), h0⟩
  simp only [Utf8.decode, if_neg hn, Bool.and_eq_true, decide_eq_true_eq, beq_iff_eq]
  repeat' split
  all_goals first
    | exact done1
    | (rename_i hc _; intro j hj; dsimp only at hj
       have hj4 : j = 0 ∨ j = 1 ∨ j = 2 ∨ j = 3 := by omega
       rcases hj4 with rfl | rfl | rfl | rfl
       all_goals first | omega | exact ⟨_, hget _ (by omega), by omega⟩)
def isGap (b : UInt8) : Bool := b == 32 || b == 10
theorem gap_contains (b : UInt8) : ([32, 10] : List UInt8).contains b = isGap b := by
  simp only [isGap, List.contains_cons, List.contains_nil, Bool.or_false]
/-- No gap among the first i bytes. -/
def NoGap (s : List UInt8) (i : Nat) : Prop := ∀ j x, j < i → s[j]? = some x → isGap x = false
theorem NoGap.all {s : List UInt8} (h : NoGap s s.length) : s.any isGap = false := by
  rw [List.any_eq_false]
  intro x hx
  obtain ⟨j, hj, rfl⟩ := List.getElem_of_mem hx
  have := h j _ hj (List.getElem?_eq_getElem hj)
  simp [this]
theorem NoGap.hit {s : List UInt8} {i : Nat} {x : UInt8} (hx : s[i]? = some x) (hg : isGap x = true) : s.any isGap = true := List.any_eq_true.2 ⟨x, List.mem_of_getElem? hx, hg⟩
theorem NoGap.succ {s : List UInt8} {i : Nat} {x : UInt8} (h : NoGap s i) (hx : s[i]? = some x) (hg : isGap x = false) : NoGap s (i + 1) := by
  intro j y hj hy
  by_cases e : j = i
  · subst e
    rw [hx] at hy
    injection hy with hy
    subst hy
    exact hg
  · exact h j y (by omega) hy
theorem NoGap.more {s : List UInt8} {i n : Nat} (h : NoGap s i) (hx : ∀ j, j < n → ∃ x : UInt8, s[i + j]? = some x ∧ 128 ≤ x.toNat) : NoGap s (i + n) := by
  intro j y hj hy
  by_cases e : j < i
  · exact h j y e hy
  · obtain ⟨x, hx, h128⟩ := hx (j - i) (by omega)
    rw [show i + (j - i) = j by omega, hy] at hx
    injection hx with hx
    subst hx
    have h1 : y ≠ 32 := fun e => by subst e; simp at h128
    have h2 : y ≠ 10 := fun e => by subst e; simp at h128
    simp [isGap, h1, h2]
set_option maxHeartbeats 4000000 in
set_option maxRecDepth 100000 in
theorem indexAny_short (s : ByteArray) (h8 : s.size ≤ 8) (w : World) :
    Calls Tryd.prog 55 #[.string s, .string ⟨#[32, 10]⟩] w fun e w' => ∃ k : Int, e = .returned (.int .i64 k) ∧ decide (0 ≤ k) = s.data.toList.any isGap ∧ Below w.heap.size w w' := by
  have h8z : decide ((8 : Int) < (s.size : Int)) = false := decide_eq_false (by omega)
  go_enter Tryd.func55, Tryd.ntmps55
  go_wp2_with (go_at_call 64; refine (Any.strings_shouldUseASCIISet Tryd.lays226 _ _).mono ?_; rintro e w' ⟨rfl, hw⟩; rw [hw, h8z])
  go_outline
  go_loopg [9, 10] s.size (fun g _ _ wx => ∃ i : Nat, s.size ≤ i + g ∧ i ≤ s.size ∧ Aside0 (wx.heap[w.heap.size]? = some (.stringIter s i)) ∧ Aside0 (NoGap s.data.toList i) ∧ Aside0 (Below w.heap.size w wx))
  case atStart => exact ⟨0, by omega, by omega, ⟨World.iter_heap _ _ _⟩, ⟨fun j x hj => absurd hj (Nat.not_lt_zero _)⟩, ⟨below_iter _ _ _⟩⟩
  case round =>
    obtain ⟨i, hig, hi, hit, hno, hB⟩ := hrel
    by_cases hlt : i < s.size
    · cases gk with
      | zero => omega
      | succ g =>
      have hB1 := fun p => Aside0.mk (Lib.below_iterAt hB.out (Nat.le_refl _) (k := w.heap.size) s p)
      have hi1 := fun p => Aside0.mk (Lib.iterAt_heap wr w.heap.size s i p hit.out)
      have hk : w.heap.size < wr.heap.size := (Array.getElem?_eq_some_iff.1 hit.out).1
      have hsz := fun p => Lib.iterAt_size wr w.heap.size s p
      by_cases ha : (s[i]'hlt).toNat < 128
      · have hnx := fun ty => Lib.run_next_ascii_at (P := Tryd.prog) wr w.heap.size s i ty hit.out hlt ha
        obtain ⟨x, hx⟩ : ∃ x : UInt8, s[i]'hlt = x := ⟨_, rfl⟩
        rw [hx] at hnx ha
        have hxl : s.data.toList[i]? = some x := by rw [← hx]; exact Lib.data_getElem? s i hlt
        have HX := Aside0.mk hxl
        clear hx hxl
        have hcon := Lib.contains_iff_indexByte [32, 10] x
        rw [gap_contains] at hcon
        have hback : ((x.toNat : Int)).toNat.toUInt8 = x := by simp
        have hrow : ∀ W : World, Calls Tryd.prog 63 #[.string ⟨#[32, 10]⟩, .int .i32 (x.toNat : Int)] W fun e w' => ∃ q : Int, e = .returned (.int .i64 q) ∧ decide (q ≥ 0) = isGap x ∧ W = w' := by
          intro W
          refine (Any.strings_IndexRune_ascii Tryd.lays152 ⟨#[32, 10]⟩ _ W (by omega) (by omega)).mono ?_
          rintro e w' ⟨rfl, rfl⟩
          rw [hback]
          exact ⟨_, rfl, hcon.symm, rfl⟩
        clear hcon hback
        cases hg : isGap x
        · rw [hg] at hrow
          have HG := Aside0.mk hg
          clear hg
          go_wp2_with (go_at_call 63; refine (hrow _).mono ?_; rintro e w' ⟨q, rfl, hq, rfl⟩; have hq2 : ¬ (0 : Int) ≤ q := of_decide_eq_false hq; clear hq)
          go_roundg g
          case measure => omega
          case rel => exact ⟨i + 1, by omega, by omega, hi1 _, ⟨hno.out.succ HX.out HG.out⟩, hB1 _⟩
        · rw [hg] at hrow
          have HG := Aside0.mk hg
          clear hg
          go_wp2_with (go_at_call 63; refine (hrow _).mono ?_; rintro e w' ⟨q, rfl, hq, rfl⟩; have hq2 : (0 : Int) ≤ q := of_decide_eq_true hq; clear hq)
          go_ret
          exact ⟨_, rfl, by rw [NoGap.hit HX.out HG.out]; simp, (hB1 _).out⟩
      · have h128 : 128 ≤ (s[i]'hlt).toNat := by omega
        have hnx := fun ty => Lib.run_next_any_at (P := Tryd.prog) wr w.heap.size s i ty hit.out hlt
        obtain ⟨d1, d2⟩ := decode_high s i hlt h128
        have d3 := decode_le s i
        have HD := Aside0.mk (decode_bytes s i hlt h128)
        clear ha h128
        obtain ⟨⟨r, wd⟩, hrw⟩ : ∃ p, Utf8.decode s i = p := ⟨_, rfl⟩
        rw [hrw] at hnx d1 d2 d3 HD
        clear hrw
        dsimp only at hnx d1 d2 d3 HD
        go_wp2_with (go_at_call 63; refine (indexRune_high _ (by omega) (by omega) _).mono ?_; rintro e w2 ⟨rfl, hb⟩)
        go_roundg g
        case measure => omega
        case rel =>
          have hle : i + wd ≤ s.size := by
            obtain ⟨x, hx, _⟩ := HD.out (wd - 1) (by omega)
            have := (List.getElem?_eq_some_iff.1 hx).1
            rw [← Lib.size_eq] at this
            omega
          have hz := hsz (i + wd)
          exact ⟨i + wd, by omega, hle, ⟨(hb.block _ (by omega)).trans (hi1 (i + wd)).out⟩, ⟨hno.out.more HD.out⟩, ⟨(hB1 (i + wd)).out.trans (hb.mono (by omega))⟩⟩
    · obtain rfl : i = s.size := by omega
      have hnx := fun ty => Lib.run_next_end_at (P := Tryd.prog) wr w.heap.size s s.size ty hit.out (Nat.lt_irrefl _)
      go_wp2
      go_ret
      exact ⟨_, rfl, by rw [NoGap.all (by rw [← Lib.size_eq]; exact hno.out)]; rfl, hB.out⟩
theorem indexAny_gap (l : List UInt8) : decide (0 ≤ Lib.indexAny l [32, 10]) = l.any isGap := by
  induction l with
  | nil => rfl
  | cons b l ih =>
    rw [Lib.indexAny, gap_contains, List.any_cons, ← ih]
    have hge := Lib.indexAny_ge [32, 10] l
    cases isGap b
    · simp only [Bool.false_eq_true, if_false, Bool.false_or]
      split
      · rename_i h
        rw [beq_iff_eq.1 h]
      · rename_i h
        have : Lib.indexAny l [32, 10] ≠ -1 := fun e => h (beq_iff_eq.2 e)
        congr 1
        exact propext ⟨fun h => by omega, fun h => by omega⟩
    · simp
/-- strings.ContainsAny at " \n". -/
def strings_ContainsAny.f (a0 : ByteArray) (a1 : ByteArray) : Option (Bool) :=
  if a0.size < 4294967281 ∧ a1.toList = [32, 10] then some (a0.data.toList.any isGap) else none
theorem indexAny_any (s : ByteArray) (hs : s.size < 4294967281) (w : World) :
    Calls Tryd.prog 55 #[.string s, .string ⟨#[32, 10]⟩] w fun e w' => ∃ k : Int, e = .returned (.int .i64 k) ∧ decide (0 ≤ k) = s.data.toList.any isGap ∧ Below w.heap.size w w' := by
  by_cases h8 : s.size ≤ 8
  · exact indexAny_short s h8 w
  · have h116 : (Tryd.prog.info? (Tryd.lays153_ren.t 116)).map (fun i => (i.zero, i.size)) = some (some (.agg (Array.replicate 256 (.bool false))), 256) := by kernel_rfl
    refine (Any.strings_IndexAny_long Tryd.lays153 (zero_of_info h116).1 (zero_of_info h116).2 s ⟨#[32, 10]⟩ w (by decide) (by omega) hs (by decide) ?_).mono ?_
    · intro j b hb
      match j, hb with
      | 0, hb => simp at hb; subst hb; decide
      | 1, hb => simp at hb; subst hb; decide
      | n + 2, hb => simp at hb
    · rintro e w' ⟨rfl, rfl⟩
      exact ⟨_, rfl, indexAny_gap _, ((Below.refl w.heap.size w).alloc (Nat.le_refl _) _).alloc (by simp) _⟩
theorem strings_ContainsAny.calls (a0 : ByteArray) (a1 : ByteArray) (r : Bool) (w : World) (h : strings_ContainsAny.f a0 a1 = some r) :
    Calls Tryd.prog 44 #[.string a0, .string a1] w fun e w' => e = .returned (.bool r) ∧ Below w.heap.size w w' := by
  unfold strings_ContainsAny.f at h
  split at h
  · rename_i hc
    injection h with h
    obtain ⟨hs, h1⟩ := hc
    obtain rfl : a1 = ⟨#[32, 10]⟩ := by
      rw [Lib.toList_data] at h1
      cases a1 with
      | mk d => congr 1; exact Array.toList_inj.1 h1
    have hI := indexAny_any a0 hs w
    subst h
    generalize a0.data.toList.any isGap = b at hI ⊢
    go_enter Tryd.func44, Tryd.ntmps44
    go_wp2_with (go_at_call 55; refine hI.mono ?_; rintro e w1 ⟨k, rfl, hk, hb⟩)
    go_ret
    exact ⟨by rw [← hk]; rfl, hb⟩
  · simp at h
end Go.Proofs.YtnkfbappnpnaoaaDoor.Q
