/- The program's OfMask and the reference's return the same at every integer, twice, in memory of their own. No condition. -/
import Derived.Test.YtcmjadnegoelhaaPFnExactOfMaskx0
import Derived.Test.YtcmjadnegoelhaaPFnExactOfMaskx1
import Derived.Test.YtcmjadnegoelhaaPFnExactOfMaskx2
namespace Go.Proofs.Ytcmjadnegoelhaa.Pure
open Go.RowKit Go.Proofs.Ytcmjadnegoelhaa.PFnExactOfMask Go.Proofs.YtcmjadnegoelhaaW.PrintWords Go.Proofs.YtcmjadnegoelhaaW.PrintLast Go.Proofs.YtcmjadnegoelhaaW.PrintMore
set_option linter.unusedVariables false
set_option linter.unusedSimpArgs false
theorem w64 {n : Int} (h0 : -9223372036854775808 ≤ n) (h1 : n ≤ 9223372036854775807) : wrap64 n = n := by unfold wrap64; omega
theorem w64s {i : Nat} (h1 : i ≤ 1000000000000000) : wrap64 ((i : Int) + 1) = ((i + 1 : Nat) : Int) := by rw [w64 (by omega) (by omega)]; omega
theorem rd_eq (l : List Int) (i : Nat) : rd l (i : Int) = l.getD i 0 := by simp [rd]
theorem rd_get (l : List Int) (i : Nat) (h : i < l.length) : l[i]? = some (rd l (i : Int)) := by
  simp [rd, List.getD_eq_getElem?_getD, List.getElem?_eq_getElem h]
theorem rd_mem (l : List Int) (i : Nat) (h : i < l.length) : rd l (i : Int) ∈ l := List.mem_of_getElem? (rd_get l i h)
theorem step_k {k d : Nat} (h : d < k) : ∃ m, k = m + 1 := ⟨k - 1, by omega⟩

def inn (a b c : Int) : Bool := decide (b ≤ a ∧ a ≤ c)
theorem inn_t {a b c : Int} : inn a b c = true ↔ b ≤ a ∧ a ≤ c := by simp [inn]
theorem inn_f {a b c : Int} : inn a b c = false ↔ a < b ∨ c < a := by simp [inn]; omega
theorem l1In_f (a b c : Int) : spec_l1In.f a b c = some (inn a b c) := by
  unfold spec_l1In.f inn
  by_cases h : a ≥ b
  · rw [if_pos h]; simp [show b ≤ a from h]
  · rw [if_neg h]; simp [show ¬ b ≤ a from h]
theorem within_f (a b c : Int) : impl_within.f a b c = some (inn a b c) := by
  unfold impl_within.f inn
  by_cases h : a ≥ b
  · rw [if_pos h]; simp [show b ≤ a from h]
  · rw [if_neg h]; simp [show ¬ b ≤ a from h]

theorem eqIntS_l0 (l : List Int) (hn : l.length ≤ 100000000000000) (d : Nat) : ∀ (k i : Nat), i + d = l.length → d < k → laws_eqIntS.l0 k l l i = some true := by
  induction d with
  | zero =>
    intro k i hi hk
    obtain ⟨k, rfl⟩ := step_k hk
    simp only [laws_eqIntS.l0]; rw [if_neg (by omega)]
  | succ d ih =>
    intro k i hi hk
    obtain ⟨k, rfl⟩ := step_k hk
    simp only [laws_eqIntS.l0]
    rw [if_pos (by omega), if_pos (by omega), if_pos (by omega), if_true, w64s (by omega)]
    exact ih k (i + 1) (by omega) (by omega)
theorem eqIntS_f {k : Nat} {l : List Int} (hn : l.length ≤ 100000000000000) (hk : l.length < k) : laws_eqIntS.f k l l = some true := by
  unfold laws_eqIntS.f
  rw [if_pos rfl]
  exact eqIntS_l0 l hn l.length k 0 (by omega) hk

def marks (a : Int) (n : Nat) : List Int := (List.range n).map fun i : Nat => a + (i : Int)
theorem marks_len (a : Int) (n : Nat) : (marks a n).length = n := by simp [marks]
theorem marks_rd (a : Int) (n i : Nat) (h : i < n) : rd (marks a n) (i : Int) = a + i := by
  simp [marks, rd, List.getD_eq_getElem?_getD, h]
theorem markIntS_l0 (n : Nat) (hn : n ≤ 100000000000000) (a : Int) (h0 : 0 ≤ a) (ha : a ≤ 100000000000000) (d : Nat) : ∀ (k : Nat) (x : List Int) (i : Nat), x.length = n → i + d = n → d < k → (∀ j, j < i → x[j]? = some (a + (j : Int))) →
    laws_markIntS.l0 k x (a + i) i = some (a + n, marks a n) := by
  induction d with
  | zero =>
    intro k x i hx hi hk hp
    obtain ⟨k, rfl⟩ := step_k hk
    simp only [laws_markIntS.l0]; rw [if_neg (by omega)]
    congr 1
    refine Prod.ext (by simp; omega) ?_
    apply List.ext_getElem?
    intro j
    by_cases h : j < i
    · show x[j]? = _
      rw [hp j h]; simp [marks, show j < n by omega]
    · rw [List.getElem?_eq_none (by simp; omega), List.getElem?_eq_none (by rw [marks_len]; omega)]
  | succ d ih =>
    intro k x i hx hi hk hp
    obtain ⟨k, rfl⟩ := step_k hk
    simp only [laws_markIntS.l0]
    rw [if_pos (by omega), if_pos (by omega), w64s (by omega), w64 (n := a + (i : Int) + 1) (by omega) (by omega), show a + (i : Int) + 1 = a + ((i + 1 : Nat) : Int) by omega]
    refine ih k _ (i + 1) (by simpa using hx) (by omega) (by omega) ?_
    intro j hj
    rw [Int.toNat_natCast, List.getElem?_set]
    by_cases h : i = j
    · subst h
      rw [if_pos rfl, if_pos (by omega)]
    · rw [if_neg h]; exact hp j (by omega)
theorem markIntS_f {k : Nat} {l : List Int} {a : Int} (hn : l.length ≤ 100000000000000) (h0 : 0 ≤ a) (ha : a ≤ 100000000000000) (hk : l.length < k) : laws_markIntS.f k l a = some (a + l.length, marks a l.length) := by
  unfold laws_markIntS.f
  have := markIntS_l0 l.length hn a h0 ha l.length k l 0 rfl (by omega) hk (by intro j hj; omega)
  rw [show a + ((0 : Nat) : Int) = a by omega] at this
  exact this
theorem heldIntS_l0 (n : Nat) (hn : n ≤ 100000000000000) (a : Int) (h0 : 0 ≤ a) (ha : a ≤ 100000000000000) (d : Nat) : ∀ (k i : Nat), i + d = n → d < k → laws_heldIntS.l0 k (marks a n) (a + i) i = some (a + n) := by
  induction d with
  | zero =>
    intro k i hi hk
    obtain ⟨k, rfl⟩ := step_k hk
    simp only [laws_heldIntS.l0]; rw [if_neg (by rw [marks_len]; omega)]
    congr 1; omega
  | succ d ih =>
    intro k i hi hk
    obtain ⟨k, rfl⟩ := step_k hk
    simp only [laws_heldIntS.l0]
    rw [if_pos (by rw [marks_len]; omega), if_pos (by omega), if_pos (marks_rd a n i (by omega)), w64s (by omega), w64 (n := a + (i : Int) + 1) (by omega) (by omega), show a + (i : Int) + 1 = a + ((i + 1 : Nat) : Int) by omega]
    exact ih k (i + 1) (by omega) (by omega)
theorem heldIntS_f {k n : Nat} {a : Int} (hn : n ≤ 100000000000000) (h0 : 0 ≤ a) (ha : a ≤ 100000000000000) (hk : n < k) : laws_heldIntS.f k (marks a n) a = some (a + n) := by
  unfold laws_heldIntS.f
  have := heldIntS_l0 n hn a h0 ha n k 0 (by omega) hk
  rw [show a + ((0 : Nat) : Int) = a by omega] at this
  exact this

theorem wrapu {n : Int} (h0 : 0 ≤ n) (h1 : n ≤ 1000) : IntKind.u64.wrap n = n := by
  simp [IntKind.wrap, IntKind.bits, IntKind.signed]; omega

theorem shr_eq {x y : Int} (h0 : 0 ≤ y) (h : y ≤ 64) : shr .i64 x y = x / 2 ^ y.toNat := by
  unfold shr; rw [Nat.min_eq_left (by simp [IntKind.bits]; omega)]
def bitOn (m : Int) (i : Nat) : Bool := decide (Go.bits .and .i64 (shr .i64 m i) 1 = 1)
def maskFrom (m : Int) : Nat → List Int
  | 0 => []
  | d + 1 => (if bitOn m (10 - (d + 1)) then [((10 - (d + 1) : Nat) : Int)] else []) ++ maskFrom m d
def maskList (m : Int) : List Int := maskFrom m 10

theorem l1Mask_l0 (m : Int) (d : Nat) : ∀ (k : Nat) (acc : List Int) (i : Nat), i + d = 10 → d < k → acc.length + d ≤ 10 →
    spec_l1Mask.l0 k m acc i = some (acc ++ maskFrom m d) := by
  induction d with
  | zero =>
    intro k acc i hi hk _
    obtain ⟨k, rfl⟩ := step_k hk
    simp only [spec_l1Mask.l0]; rw [if_neg (by omega)]; simp [maskFrom]
  | succ d ih =>
    intro k acc i hi hk hl
    obtain ⟨k, rfl⟩ := step_k hk
    simp only [spec_l1Mask.l0]
    rw [wrapu (by omega) (by omega), if_pos (by omega), if_pos (by omega), w64s (by omega)]
    have e : 10 - (d + 1) = i := by omega
    by_cases hb : Go.bits .and .i64 (shr .i64 m i) 1 = 1
    · rw [if_pos hb, if_pos (by omega), ih k _ (i + 1) (by omega) (by omega) (by simp; omega)]
      simp only [maskFrom, bitOn, e, hb, decide_true, if_true, List.append_assoc]
    · rw [if_neg hb, ih k _ (i + 1) (by omega) (by omega) (by omega)]
      simp only [maskFrom, bitOn, e, hb, decide_false, Bool.false_eq_true, if_false, List.nil_append]
theorem l1Mask_f {k : Nat} {m : Int} (hk : 10 < k) : spec_l1Mask.f k m = some (maskList m) := by
  unfold spec_l1Mask.f
  rw [show (0 : Int) = ((0 : Nat) : Int) from rfl, l1Mask_l0 m 10 k [] 0 (by omega) hk (by simp)]
  rw [List.nil_append, maskList]

theorem ofMask_l0 (m : Int) (d : Nat) : ∀ (k : Nat) (acc : List Int) (i : Nat), i + d = 10 → d < k → acc.length + d ≤ 10 →
    impl_ofMask.l0 k m acc i = some (acc ++ maskFrom m d) := by
  induction d with
  | zero =>
    intro k acc i hi hk _
    obtain ⟨k, rfl⟩ := step_k hk
    simp only [impl_ofMask.l0]; rw [if_neg (by omega)]; simp [maskFrom]
  | succ d ih =>
    intro k acc i hi hk hl
    obtain ⟨k, rfl⟩ := step_k hk
    simp only [impl_ofMask.l0]
    rw [if_pos (by omega), if_pos (by omega), w64s (by omega)]
    have e : 10 - (d + 1) = i := by omega
    by_cases hb : Go.bits .and .i64 (shr .i64 m i) 1 = 1
    · rw [if_pos hb, if_pos (by omega), ih k _ (i + 1) (by omega) (by omega) (by simp; omega)]
      simp only [maskFrom, bitOn, e, hb, decide_true, if_true, List.append_assoc]
    · rw [if_neg hb, ih k _ (i + 1) (by omega) (by omega) (by omega)]
      simp only [maskFrom, bitOn, e, hb, decide_false, Bool.false_eq_true, if_false, List.nil_append]
theorem ofMask_f {k : Nat} {m : Int} (hk : 10 < k) : impl_ofMask.f k m = some (maskList m) := by
  unfold impl_ofMask.f
  rw [show (0 : Int) = ((0 : Nat) : Int) from rfl, ofMask_l0 m 10 k [] 0 (by omega) hk (by simp)]
  rw [List.nil_append, maskList]

theorem maskFrom_len (m : Int) (d : Nat) : (maskFrom m d).length ≤ d := by
  induction d with
  | zero => simp [maskFrom]
  | succ d ih => simp only [maskFrom, List.length_append]; split <;> simp <;> omega
theorem maskList_len (m : Int) : (maskList m).length ≤ 10 := maskFrom_len m 10
theorem FnExactOfMask : ∀ (a0 : Int), (Lit.int .i64 a0).wf = true → ∃ k, laws_FnExactOfMask.f k a0 = some true := by
  intro m
  intros
  suffices h : ∀ k, laws_FnExactOfMask.f (k + 20) m = some true from ⟨_, h 0⟩
  intro k
  unfold laws_FnExactOfMask.f spec_OfMask.f
  have hl := maskList_len m
  have hneg : (1 + ((maskList m).length : Int) < 0) = False := eq_false (by omega)
  by_cases h : inn m 0 1023 = true
  · simp (disch := omega) only [l1In_f, within_f, Option.bind_some, h, if_true, l1Mask_f, ofMask_f, impl_OfMask.f, eqIntS_f, bne_self_eq_false, laws_FnExactOfMask.j0, laws_FnExactOfMask.j1, markIntS_f, heldIntS_f, Bool.false_eq_true, if_false, hneg]
  · have h' : inn m 0 1023 = false := Bool.eq_false_iff.2 h
    simp (disch := first | omega | (simp only [List.length_nil]; omega)) only [l1In_f, within_f, Option.bind_some, h', Bool.false_eq_true, if_false, impl_OfMask.f, eqIntS_f, bne_self_eq_false, laws_FnExactOfMask.j0, laws_FnExactOfMask.j1, markIntS_f, if_true]
    simp only [List.length_nil]
    simp (disch := omega) only [heldIntS_f, Option.bind_some, Bool.false_eq_true, if_false, if_true]
    rfl

end Go.Proofs.Ytcmjadnegoelhaa.Pure
