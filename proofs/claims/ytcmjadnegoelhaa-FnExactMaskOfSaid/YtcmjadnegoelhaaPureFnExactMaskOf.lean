/- The program's MaskOf and the reference's return the same at every list of integers and leave it as it is. No condition. -/
import Derived.Test.YtcmjadnegoelhaaPFnExactMaskOfx0
import Derived.Test.YtcmjadnegoelhaaPFnExactMaskOfx1
import Derived.Test.YtcmjadnegoelhaaPFnExactMaskOfx2
namespace Go.Proofs.Ytcmjadnegoelhaa.Pure
open Go.RowKit Go.Proofs.Ytcmjadnegoelhaa.PFnExactMaskOf Go.Proofs.YtcmjadnegoelhaaW.PrintWords Go.Proofs.YtcmjadnegoelhaaW.PrintLast Go.Proofs.YtcmjadnegoelhaaW.PrintMore
set_option linter.unusedVariables false
set_option linter.unusedSimpArgs false
theorem w64 {n : Int} (h0 : -9223372036854775808 ≤ n) (h1 : n ≤ 9223372036854775807) : wrap64 n = n := by unfold wrap64; omega
theorem w64s {i : Nat} (h1 : i ≤ 1000000000000000) : wrap64 ((i : Int) + 1) = ((i + 1 : Nat) : Int) := by rw [w64 (by omega) (by omega)]; omega
theorem rd_eq (l : List Int) (i : Nat) : rd l (i : Int) = l.getD i 0 := by simp [rd]
theorem rd_get (l : List Int) (i : Nat) (h : i < l.length) : l[i]? = some (rd l (i : Int)) := by
  simp [rd, List.getD_eq_getElem?_getD, List.getElem?_eq_getElem h]
theorem rd_mem (l : List Int) (i : Nat) (h : i < l.length) : rd l (i : Int) ∈ l := List.mem_of_getElem? (rd_get l i h)
theorem step_k {k d : Nat} (h : d < k) : ∃ m, k = m + 1 := ⟨k - 1, by omega⟩

def inn (a b c : Int) : Bool := decide (b ≤ a ∧ a ≤ c)
theorem inn_t {a b c : Int} : inn a b c = true ↔ b ≤ a ∧ a ≤ c := by simp [inn]
theorem inn_f {a b c : Int} : inn a b c = false ↔ a < b ∨ c < a := by simp [inn]; omega
theorem l1In_f (a b c : Int) : spec_l1In.f a b c = some (inn a b c) := by
  unfold spec_l1In.f inn
  by_cases h : a ≥ b
  · rw [if_pos h]; simp [show b ≤ a from h]
  · rw [if_neg h]; simp [show ¬ b ≤ a from h]
theorem within_f (a b c : Int) : impl_within.f a b c = some (inn a b c) := by
  unfold impl_within.f inn
  by_cases h : a ≥ b
  · rw [if_pos h]; simp [show b ≤ a from h]
  · rw [if_neg h]; simp [show ¬ b ≤ a from h]

theorem eqIntS_l0 (l : List Int) (hn : l.length ≤ 100000000000000) (d : Nat) : ∀ (k i : Nat), i + d = l.length → d < k → laws_eqIntS.l0 k l l i = some true := by
  induction d with
  | zero =>
    intro k i hi hk
    obtain ⟨k, rfl⟩ := step_k hk
    simp only [laws_eqIntS.l0]; rw [if_neg (by omega)]
  | succ d ih =>
    intro k i hi hk
    obtain ⟨k, rfl⟩ := step_k hk
    simp only [laws_eqIntS.l0]
    rw [if_pos (by omega), if_pos (by omega), if_pos (by omega), if_true, w64s (by omega)]
    exact ih k (i + 1) (by omega) (by omega)
theorem eqIntS_f {k : Nat} {l : List Int} (hn : l.length ≤ 100000000000000) (hk : l.length < k) : laws_eqIntS.f k l l = some true := by
  unfold laws_eqIntS.f
  rw [if_pos rfl]
  exact eqIntS_l0 l hn l.length k 0 (by omega) hk

theorem toIntS_l0 (l : List Int) (hn : l.length ≤ 100000000000000) (d : Nat) : ∀ (k : Nat) (x : List Int) (i : Nat), x.length = l.length → i + d = l.length → d < k → (∀ j, j < i → x[j]? = l[j]?) →
    laws_toIntS.l0 k l x i = some l := by
  induction d with
  | zero =>
    intro k x i hx hi hk hp
    obtain ⟨k, rfl⟩ := step_k hk
    simp only [laws_toIntS.l0]; rw [if_neg (by omega)]
    congr 1
    apply List.ext_getElem?
    intro j
    by_cases h : j < i
    · exact hp j h
    · rw [List.getElem?_eq_none (by omega), List.getElem?_eq_none (by omega)]
  | succ d ih =>
    intro k x i hx hi hk hp
    obtain ⟨k, rfl⟩ := step_k hk
    simp only [laws_toIntS.l0]
    rw [if_pos (by omega), if_pos (by omega), if_pos (by omega), w64s (by omega)]
    refine ih k _ (i + 1) (by simpa using hx) (by omega) (by omega) ?_
    intro j hj
    rw [Int.toNat_natCast, List.getElem?_set]
    by_cases h : i = j
    · subst h
      rw [if_pos rfl, if_pos (by omega)]
      exact (rd_get l i (by omega)).symm
    · rw [if_neg h]; exact hp j (by omega)
theorem toIntS_f {k : Nat} {l : List Int} (hn : l.length ≤ 35184372088832) (hk : l.length < k) : laws_toIntS.f k l = some l := by
  unfold laws_toIntS.f
  rw [if_pos (by omega), if_pos (by omega)]
  exact toIntS_l0 l (by omega) l.length k _ 0 (by simp) (by omega) hk (by intro j hj; omega)

def riseFrom (l : List Int) (lo hi : Int) : Nat → Nat → Bool
  | _, 0 => true
  | i, d + 1 => inn (rd l i) lo hi && (decide (i = 0) || decide (rd l ((i - 1 : Nat) : Int) < rd l i)) && riseFrom l lo hi (i + 1) d
def rising (l : List Int) (lo hi : Int) : Bool := riseFrom l lo hi 0 l.length
theorem riseFrom_iff (l : List Int) (lo hi : Int) : ∀ d i, riseFrom l lo hi i d = true ↔ ∀ j, i ≤ j → j < i + d → (lo ≤ rd l j ∧ rd l j ≤ hi) ∧ (0 < j → rd l ((j - 1 : Nat) : Int) < rd l j) := by
  intro d
  induction d with
  | zero => intro i; simp only [riseFrom, true_iff]; intro j h1 h2; omega
  | succ d ih =>
    intro i
    simp only [riseFrom, Bool.and_eq_true, ih, inn_t, Bool.or_eq_true, decide_eq_true_eq]
    constructor
    · rintro ⟨⟨h1, h2⟩, h3⟩ j hj hj2
      by_cases e : j = i
      · subst e; exact ⟨h1, fun hp => h2.resolve_left (by omega)⟩
      · exact h3 j (by omega) (by omega)
    · intro h
      refine ⟨⟨(h i (Nat.le_refl _) (by omega)).1, ?_⟩, fun j hj hj2 => h j (by omega) (by omega)⟩
      by_cases e : i = 0
      · exact .inl e
      · exact .inr ((h i (Nat.le_refl _) (by omega)).2 (by omega))
theorem rising_iff (l : List Int) (lo hi : Int) : rising l lo hi = true ↔ ∀ j, j < l.length → (lo ≤ rd l j ∧ rd l j ≤ hi) ∧ (0 < j → rd l ((j - 1 : Nat) : Int) < rd l j) := by
  unfold rising
  rw [riseFrom_iff]
  exact ⟨fun h j hj => h j (by omega) (by omega), fun h j _ hj => h j (by omega)⟩
theorem rising_bd {l : List Int} {lo hi : Int} (h : rising l lo hi = true) : ∀ x ∈ l, lo ≤ x ∧ x ≤ hi := by
  intro x hx
  obtain ⟨i, hi, rfl⟩ := List.mem_iff_getElem.1 hx
  have := ((rising_iff l lo _).1 h i hi).1
  rw [rd_eq, List.getD_eq_getElem?_getD, List.getElem?_eq_getElem hi] at this
  exact this
theorem rising_lt {l : List Int} {lo hi : Int} (h : rising l lo hi = true) (i : Nat) : ∀ d, i + d + 1 < l.length → rd l i < rd l ((i + d + 1 : Nat) : Int) := by
  have h' := (rising_iff l lo hi).1 h
  intro d
  induction d with
  | zero => intro hd; exact (h' (i + 1) hd).2 (by omega)
  | succ d ih =>
    intro hd
    have h1 := ih (by omega)
    have h2 := (h' (i + (d + 1) + 1) hd).2 (by omega)
    rw [show i + (d + 1) + 1 - 1 = i + d + 1 by omega] at h2
    omega
theorem rising_len {l : List Int} {lo hi : Int} (h : rising l lo hi = true) (hh : lo ≤ hi + 1) : (l.length : Int) ≤ hi - lo + 1 := by
  have h' := (rising_iff l lo hi).1 h
  have key : ∀ i : Nat, i < l.length → lo + i ≤ rd l i := by
    intro i
    induction i with
    | zero => intro hi; have := (h' 0 hi).1; simpa using this.1
    | succ i ih =>
      intro hi
      have h1 := ih (by omega)
      have h2 := (h' (i + 1) hi).2 (by omega)
      rw [show i + 1 - 1 = i by omega] at h2
      omega
  by_cases e : l.length = 0
  · omega
  · have h1 := key (l.length - 1) (by omega)
    have h2 := (h' (l.length - 1) (by omega)).1
    omega

theorem l1Rising_l0 (l : List Int) (lo hi : Int) (hn : l.length ≤ 100000000000000) (d : Nat) : ∀ (k i : Nat), i + d = l.length → d < k → spec_l1Rising.l0 k l lo hi l (l.length : Int) i = some (riseFrom l lo hi i d) := by
  induction d with
  | zero =>
    intro k i hi' hk
    obtain ⟨k, rfl⟩ := step_k hk
    simp only [spec_l1Rising.l0]; rw [if_neg (by omega)]; rfl
  | succ d ih =>
    intro k i hi' hk
    obtain ⟨k, rfl⟩ := step_k hk
    simp only [spec_l1Rising.l0, l1In_f, Option.bind_some]
    rw [if_pos (by omega), if_pos (by omega), if_pos (by omega), w64s (by omega), ih k (i + 1) (by omega) (by omega)]
    simp only [riseFrom]
    by_cases h1 : inn (rd l i) lo hi = true
    · rw [if_pos h1]
      by_cases h2 : i = 0
      · subst h2; rw [if_neg (by omega), h1]; simp
      · rw [if_pos (by omega), w64 (n := (i : Int) - 1) (by omega) (by omega), if_pos (by omega), if_pos (by omega), show (i : Int) - 1 = ((i - 1 : Nat) : Int) by omega]
        by_cases h3 : rd l ((i - 1 : Nat) : Int) ≥ rd l i
        · rw [if_pos h3]; simp [h2, show ¬ rd l ((i - 1 : Nat) : Int) < rd l i by omega]
        · rw [if_neg h3]; simp [h1, show rd l ((i - 1 : Nat) : Int) < rd l i by omega]
    · rw [if_neg h1]; simp [h1]
theorem l1Rising_f {k : Nat} {l : List Int} {lo hi : Int} (hn : l.length ≤ 100000000000000) (hk : l.length < k) : spec_l1Rising.f k l lo hi = some (rising l lo hi) := by
  unfold spec_l1Rising.f
  exact l1Rising_l0 l lo hi hn l.length k 0 (by omega) hk

theorem isGroup_l0 (l : List Int) (hn : l.length ≤ 100000000000000) (d : Nat) : ∀ (k i : Nat), i + d = l.length → d < k → impl_isGroup.l0 k l l (l.length : Int) i = some (riseFrom l 0 9 i d) := by
  induction d with
  | zero =>
    intro k i hi' hk
    obtain ⟨k, rfl⟩ := step_k hk
    simp only [impl_isGroup.l0]; rw [if_neg (by omega)]; rfl
  | succ d ih =>
    intro k i hi' hk
    obtain ⟨k, rfl⟩ := step_k hk
    simp only [impl_isGroup.l0, within_f, Option.bind_some]
    rw [if_pos (by omega), if_pos (by omega), if_pos (by omega), w64s (by omega), ih k (i + 1) (by omega) (by omega)]
    simp only [riseFrom]
    by_cases h1 : inn (rd l i) 0 9 = true
    · rw [if_pos h1]
      by_cases h2 : i = 0
      · subst h2; rw [if_neg (by omega), h1]; simp
      · rw [if_pos (by omega), w64 (n := (i : Int) - 1) (by omega) (by omega), if_pos (by omega), if_pos (by omega), show (i : Int) - 1 = ((i - 1 : Nat) : Int) by omega]
        by_cases h3 : rd l ((i - 1 : Nat) : Int) ≥ rd l i
        · rw [if_pos h3]; simp [h2, show ¬ rd l ((i - 1 : Nat) : Int) < rd l i by omega]
        · rw [if_neg h3]; simp [h1, show rd l ((i - 1 : Nat) : Int) < rd l i by omega]
    · rw [if_neg h1]; simp [h1]
theorem isGroup_f {k : Nat} {l : List Int} (hn : l.length ≤ 100000000000000) (hk : l.length < k) : impl_isGroup.f k l = some (rising l 0 9) := by
  unfold impl_isGroup.f
  exact isGroup_l0 l hn l.length k 0 (by omega) hk

theorem wrapu {n : Int} (h0 : 0 ≤ n) (h1 : n ≤ 1000) : IntKind.u64.wrap n = n := by
  simp [IntKind.wrap, IntKind.bits, IntKind.signed]; omega

theorem wraps_i64 (n : Int) (h₀ : 0 ≤ n) (h₁ : n < 2 ^ 62) : IntKind.i64.wrap n = n := by rw [IntKind.wrap_i64]; omega
theorem or_nat {a b : Nat} (ha : a < 2 ^ 62) (hb : b < 2 ^ 62) : Go.bits .or .i64 (a : Int) (b : Int) = ((a ||| b : Nat) : Int) := (bits_nat .i64 62 (by decide) wraps_i64 a b ha hb).2
theorem and_nat {a b : Nat} (ha : a < 2 ^ 62) (hb : b < 2 ^ 62) : Go.bits .and .i64 (a : Int) (b : Int) = ((a &&& b : Nat) : Int) := (bits_nat .i64 62 (by decide) wraps_i64 a b ha hb).1
theorem shl_one {x : Int} (h0 : 0 ≤ x) (h : x ≤ 61) : shl .i64 1 x = ((2 ^ x.toNat : Nat) : Int) := by
  unfold shl
  rw [Nat.min_eq_left (by simp [IntKind.bits]; omega), Int.one_mul]
  have e : (2 : Int) ^ x.toNat = ((2 ^ x.toNat : Nat) : Int) := by simp
  rw [e]
  have hl : (2 ^ x.toNat : Nat) < 2 ^ 62 := Nat.pow_lt_pow_right (by omega) (by omega)
  exact wraps_i64 _ (Int.natCast_nonneg _) (by exact_mod_cast hl)
def orAll (l : List Int) (m : Nat) : Nat := l.foldl (fun m x => m ||| 2 ^ x.toNat) m
theorem orAll_lt (l : List Int) (h : ∀ x ∈ l, 0 ≤ x ∧ x ≤ 9) : ∀ m, m < 1024 → orAll l m < 1024 := by
  induction l with
  | nil => intro m hm; exact hm
  | cons x l ih =>
    intro m hm
    have hx := h x (by simp)
    refine ih (fun y hy => h y (by simp [hy])) _ ?_
    exact Nat.or_lt_two_pow (n := 10) hm (Nat.pow_lt_pow_right (by omega) (by omega))
theorem orAll_bit (l : List Int) (h : ∀ x ∈ l, 0 ≤ x) (i : Nat) : ∀ m, (orAll l m).testBit i = (m.testBit i || decide ((i : Int) ∈ l)) := by
  induction l with
  | nil => intro m; simp [orAll]
  | cons x l ih =>
    intro m
    have hx := h x (by simp)
    show (orAll l (m ||| 2 ^ x.toNat)).testBit i = _
    rw [ih (fun y hy => h y (by simp [hy])), Nat.testBit_or, Nat.testBit_two_pow]
    by_cases e : x.toNat = i
    · have : (i : Int) = x := by omega
      simp [e, this]
    · have : ¬ (i : Int) = x := by omega
      simp [e, this]

theorem maskOf_l0 (l : List Int) (h : ∀ x ∈ l, 0 ≤ x ∧ x ≤ 9) (hn : l.length ≤ 100000000000000) (d : Nat) : ∀ (k i m : Nat), m < 1024 → i + d = l.length → d < k → impl_maskOf.l0 k (m : Int) l (l.length : Int) i = some ((orAll (l.drop i) m : Nat) : Int) := by
  induction d with
  | zero =>
    intro k i m hm hi' hk
    obtain ⟨k, rfl⟩ := step_k hk
    simp only [impl_maskOf.l0]; rw [if_neg (by omega), List.drop_eq_nil_of_le (by omega)]; rfl
  | succ d ih =>
    intro k i m hm hi' hk
    obtain ⟨k, rfl⟩ := step_k hk
    simp only [impl_maskOf.l0]
    have hx := h _ (rd_mem l i (by omega))
    have hp : 2 ^ (rd l i).toNat < 2 ^ 10 := Nat.pow_lt_pow_right (by omega) (by omega)
    rw [if_pos (by omega), if_pos (by omega), if_pos (by omega), if_pos hx.1, w64s (by omega), shl_one hx.1 (by omega), or_nat (by omega) (by omega)]
    have hlt : m ||| 2 ^ (rd l i).toNat < 1024 := Nat.or_lt_two_pow (n := 10) hm hp
    rw [ih k (i + 1) _ hlt (by omega) (by omega)]
    have e : l.drop i = rd l i :: l.drop (i + 1) := by
      rw [List.drop_eq_getElem_cons (by omega)]
      congr 1
      rw [rd_eq, List.getD_eq_getElem?_getD, List.getElem?_eq_getElem (by omega)]; rfl
    rw [e]; rfl
theorem maskOf_f {k : Nat} {l : List Int} (h : ∀ x ∈ l, 0 ≤ x ∧ x ≤ 9) (hn : l.length ≤ 100000000000000) (hk : l.length < k) : impl_maskOf.f k l = some ((orAll l 0 : Nat) : Int) := by
  unfold impl_maskOf.f
  exact maskOf_l0 l h hn l.length k 0 0 (by omega) (by omega) hk

theorem MaskOfS_l0 (l : List Int) (h : ∀ x ∈ l, 0 ≤ x ∧ x ≤ 9) (hn : l.length ≤ 100000000000000) (d : Nat) : ∀ (k i m : Nat), m < 1024 → i + d = l.length → d < k → spec_MaskOf.l0 k (m : Int) l (l.length : Int) i = some (((orAll (l.drop i) m : Nat) : Int), true) := by
  induction d with
  | zero =>
    intro k i m hm hi' hk
    obtain ⟨k, rfl⟩ := step_k hk
    simp only [spec_MaskOf.l0]; rw [if_neg (by omega), List.drop_eq_nil_of_le (by omega)]; rfl
  | succ d ih =>
    intro k i m hm hi' hk
    obtain ⟨k, rfl⟩ := step_k hk
    simp only [spec_MaskOf.l0]
    have hx := h _ (rd_mem l i (by omega))
    have hp : 2 ^ (rd l i).toNat < 2 ^ 10 := Nat.pow_lt_pow_right (by omega) (by omega)
    rw [if_pos (by omega), if_pos (by omega), if_pos (by omega), wrapu hx.1 (by omega), if_pos hx.1, w64s (by omega), shl_one hx.1 (by omega), or_nat (by omega) (by omega)]
    have hlt : m ||| 2 ^ (rd l i).toNat < 1024 := Nat.or_lt_two_pow (n := 10) hm hp
    rw [ih k (i + 1) _ hlt (by omega) (by omega)]
    have e : l.drop i = rd l i :: l.drop (i + 1) := by
      rw [List.drop_eq_getElem_cons (by omega)]
      congr 1
      rw [rd_eq, List.getD_eq_getElem?_getD, List.getElem?_eq_getElem (by omega)]; rfl
    rw [e]; rfl
theorem MaskOfS_f {k : Nat} {l : List Int} (hn : l.length ≤ 100000000000000) (hk : l.length < k) : spec_MaskOf.f k l = some (if rising l 0 9 then (((orAll l 0 : Nat) : Int), true) else (0, false)) := by
  unfold spec_MaskOf.f spec_l1Group.f
  simp (disch := assumption) only [l1Rising_f, Option.bind_some]
  by_cases h : rising l 0 9 = true
  · rw [if_pos h, if_pos h]
    exact MaskOfS_l0 l (rising_bd h) hn l.length k 0 0 (by omega) (by omega) hk
  · rw [if_neg h, if_neg h]
theorem FnExactMaskOf : ∀ (l0 : List (Int)), l0.length * 8 ≤ 140737488351232 → (∀ v ∈ l0, (Lit.int .i64 v).wf = true) → ∃ k, laws_FnExactMaskOf.f k l0 = some true := by
  intro l hl
  intros
  suffices h : ∀ k, 1048600 ≤ k → laws_FnExactMaskOf.f k l = some true from ⟨_, h _ (Nat.le_refl _)⟩
  intro k hk
  unfold laws_FnExactMaskOf.f
  by_cases h : (l.length : Int) > 1048576
  · rw [if_pos h]
  · have hi : impl_MaskOf.f k l = some (if rising l 0 9 then (((orAll l 0 : Nat) : Int), true) else (0, false)) := by
      unfold impl_MaskOf.f
      simp (disch := omega) only [isGroup_f, Option.bind_some]
      by_cases hr : rising l 0 9 = true
      · simp only [hr, if_true, maskOf_f (k := k) (rising_bd hr) (by omega) (by omega), Option.bind_some]
      · simp only [hr, Bool.false_eq_true, if_false]
    rw [if_neg h]
    simp (disch := omega) only [toIntS_f, MaskOfS_f, Option.bind_some, hi, bne_self_eq_false, if_true]
    obtain ⟨m, hm⟩ : ∃ m, k = m + 1 := ⟨k - 1, by omega⟩
    rw [hm]
    simp (disch := omega) only [laws_FnExactMaskOf.j0, toIntS_f, eqIntS_f, Option.bind_some, Bool.false_eq_true, if_false, if_true]

end Go.Proofs.Ytcmjadnegoelhaa.Pure
