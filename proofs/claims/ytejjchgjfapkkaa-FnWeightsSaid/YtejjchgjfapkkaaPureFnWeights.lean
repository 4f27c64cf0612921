/- What the program tells of weights and great groups is what the reference tells and what the statement asks, at every two lists of bytes. No condition. -/
import Derived.Test.YtejjchgjfapkkaaPFnWeightsx0
import Derived.Test.YtejjchgjfapkkaaPFnWeightsx1
import Derived.Test.YtejjchgjfapkkaaPFnWeightsx2
import Derived.Test.YtejjchgjfapkkaaPFnWeightsx3
import Derived.Test.YtejjchgjfapkkaaPFnWeightsx4
import Derived.Test.YtejjchgjfapkkaaPFnWeightsx5
import Derived.Test.YtejjchgjfapkkaaPFnWeightsx6
import Derived.Test.YtejjchgjfapkkaaPFnWeightsx7
namespace Go.Proofs.Ytejjchgjfapkkaa.Pure
open Go.RowKit Go.Proofs.Ytejjchgjfapkkaa.PFnWeights Go.Proofs.YtejjchgjfapkkaaW.PrintWords Go.Proofs.YtejjchgjfapkkaaW.PrintLast Go.Proofs.YtejjchgjfapkkaaW.PrintMore
set_option linter.unusedVariables false
set_option linter.unusedSimpArgs false
theorem w64 {n : Int} (h0 : -9223372036854775808 ≤ n) (h1 : n ≤ 9223372036854775807) : wrap64 n = n := by unfold wrap64; omega
theorem w64s {i : Nat} (h1 : i ≤ 1000000000000000) : wrap64 ((i : Int) + 1) = ((i + 1 : Nat) : Int) := by rw [w64 (by omega) (by omega)]; omega
theorem rd_eq (l : List Int) (i : Nat) : rd l (i : Int) = l.getD i 0 := by simp [rd]
theorem rd_get (l : List Int) (i : Nat) (h : i < l.length) : l[i]? = some (rd l (i : Int)) := by
  simp [rd, List.getD_eq_getElem?_getD, List.getElem?_eq_getElem h]
theorem rd_mem (l : List Int) (i : Nat) (h : i < l.length) : rd l (i : Int) ∈ l := List.mem_of_getElem? (rd_get l i h)
theorem step_k {k d : Nat} (h : d < k) : ∃ m, k = m + 1 := ⟨k - 1, by omega⟩
def inn (a b c : Int) : Bool := decide (b ≤ a ∧ a ≤ c)
theorem inn_t {a b c : Int} : inn a b c = true ↔ b ≤ a ∧ a ≤ c := by simp [inn]
theorem inn_f {a b c : Int} : inn a b c = false ↔ a < b ∨ c < a := by simp [inn]; omega
theorem l1In_f (a b c : Int) : spec_l1In.f a b c = some (inn a b c) := by
  unfold spec_l1In.f inn
  by_cases h : a ≥ b
  · rw [if_pos h]; simp [show b ≤ a from h]
  · rw [if_neg h]; simp [show ¬ b ≤ a from h]
theorem within_f (a b c : Int) : impl_within.f a b c = some (inn a b c) := by
  unfold impl_within.f inn
  by_cases h : a ≥ b
  · rw [if_pos h]; simp [show b ≤ a from h]
  · rw [if_neg h]; simp [show ¬ b ≤ a from h]
def allFrom (l : List Int) (lo hi : Int) : Nat → Nat → Bool
  | _, 0 => true
  | i, d + 1 => inn (rd l i) lo hi && allFrom l lo hi (i + 1) d
def allIn (l : List Int) (lo hi : Int) : Bool := allFrom l lo hi 0 l.length
theorem allFrom_iff (l : List Int) (lo hi : Int) : ∀ d i, allFrom l lo hi i d = true ↔ ∀ j : Nat, i ≤ j → j < i + d → lo ≤ rd l j ∧ rd l j ≤ hi := by
  intro d
  induction d with
  | zero => intro i; simp only [allFrom, true_iff]; intro j h1 h2; omega
  | succ d ih =>
    intro i
    simp only [allFrom, Bool.and_eq_true, ih, inn_t]
    constructor
    · rintro ⟨h1, h3⟩ j hj hj2
      by_cases e : j = i
      · subst e; exact h1
      · exact h3 j (by omega) (by omega)
    · intro h
      exact ⟨h i (Nat.le_refl _) (by omega), fun j hj hj2 => h j (by omega) (by omega)⟩
theorem allIn_bd {l : List Int} {lo hi : Int} (h : allIn l lo hi = true) : ∀ x ∈ l, lo ≤ x ∧ x ≤ hi := by
  intro x hx
  obtain ⟨i, hi', rfl⟩ := List.mem_iff_getElem.1 hx
  have := (allFrom_iff l lo hi l.length 0).1 h i (by omega) (by omega)
  rw [rd_eq, List.getD_eq_getElem?_getD, List.getElem?_eq_getElem hi'] at this
  exact this
theorem allIn_of {l : List Int} {lo hi : Int} (h : ∀ x ∈ l, lo ≤ x ∧ x ≤ hi) : allIn l lo hi = true := (allFrom_iff l lo hi l.length 0).2 fun j _ hj => h _ (rd_mem l j (by omega))
theorem l1All_l0 (l : List Int) (lo hi : Int) (hn : l.length ≤ 100000000000000) (d : Nat) : ∀ (k i : Nat), i + d = l.length → d < k → spec_l1All.l0 k lo hi l (l.length : Int) i = some (allFrom l lo hi i d) := by
  induction d with
  | zero =>
    intro k i hi' hk
    obtain ⟨k, rfl⟩ := step_k hk
    simp only [spec_l1All.l0]; rw [if_neg (by omega)]; rfl
  | succ d ih =>
    intro k i hi' hk
    obtain ⟨k, rfl⟩ := step_k hk
    simp only [spec_l1All.l0, l1In_f, Option.bind_some]
    rw [if_pos (by omega), if_pos (by omega), if_pos (by omega), w64s (by omega), ih k (i + 1) (by omega) (by omega)]
    simp only [allFrom]
    by_cases h1 : inn (rd l i) lo hi = true
    · rw [if_pos h1, h1]; simp
    · rw [if_neg h1]; simp [h1]
theorem l1All_f {k : Nat} {l : List Int} {lo hi : Int} (hn : l.length ≤ 100000000000000) (hk : l.length < k) : spec_l1All.f k l lo hi = some (allIn l lo hi) := by
  unfold spec_l1All.f
  exact l1All_l0 l lo hi hn l.length k 0 (by omega) hk
theorem IndexFunc_l0 (l : List Int) (hn : l.length ≤ 100000000000000) (d : Nat) : ∀ (k i : Nat), i + d = l.length → d < k → ∃ r, slices_IndexFunc_int_int.l0 k l (l.length : Int) i = some r ∧ (0 ≤ r ↔ allFrom l 1 1000 i d = false) := by
  induction d with
  | zero =>
    intro k i hi' hk
    obtain ⟨k, rfl⟩ := step_k hk
    simp only [slices_IndexFunc_int_int.l0]
    rw [if_neg (by omega)]
    exact ⟨_, rfl, by simp [allFrom]⟩
  | succ d ih =>
    intro k i hi' hk
    obtain ⟨k, rfl⟩ := step_k hk
    obtain ⟨r, hr, hiff⟩ := ih k (i + 1) (by omega) (by omega)
    simp only [slices_IndexFunc_int_int.l0, impl_areStakes_1.f, within_f, Option.bind_some]
    rw [if_pos (by omega), if_pos (by omega), if_pos (by omega), w64s (by omega)]
    simp only [allFrom]
    by_cases h1 : inn (rd l i) 1 1000 = true
    · rw [h1]
      simp only [Bool.not_true, Bool.false_eq_true, if_false, Bool.true_and]
      exact ⟨r, hr, hiff⟩
    · rw [Bool.eq_false_iff.2 h1]
      simp only [Bool.not_false, if_true, Bool.false_and]
      exact ⟨_, rfl, by simp⟩
theorem ContainsFunc_f {k : Nat} {l : List Int} {a : Int} (hn : l.length ≤ 100000000000000) (hk : l.length < k) : slices_ContainsFunc_int_int.f k l a = some (!allIn l 1 1000) := by
  unfold slices_ContainsFunc_int_int.f slices_IndexFunc_int_int.f
  obtain ⟨r, hr, hiff⟩ := IndexFunc_l0 l hn l.length k 0 (by omega) hk
  rw [show (0 : Int) = ((0 : Nat) : Int) from rfl, hr]
  simp only [Option.bind_some]
  congr 1
  unfold allIn
  rw [Bool.eq_iff_iff]
  simp only [decide_eq_true_eq, Bool.not_eq_true']
  exact hiff
def riseFrom (l : List Int) (lo hi : Int) : Nat → Nat → Bool
  | _, 0 => true
  | i, d + 1 => inn (rd l i) lo hi && (decide (i = 0) || decide (rd l ((i - 1 : Nat) : Int) < rd l i)) && riseFrom l lo hi (i + 1) d
def rising (l : List Int) (lo hi : Int) : Bool := riseFrom l lo hi 0 l.length
theorem riseFrom_iff (l : List Int) (lo hi : Int) : ∀ d i, riseFrom l lo hi i d = true ↔ ∀ j, i ≤ j → j < i + d → (lo ≤ rd l j ∧ rd l j ≤ hi) ∧ (0 < j → rd l ((j - 1 : Nat) : Int) < rd l j) := by
  intro d
  induction d with
  | zero => intro i; simp only [riseFrom, true_iff]; intro j h1 h2; omega
  | succ d ih =>
    intro i
    simp only [riseFrom, Bool.and_eq_true, ih, inn_t, Bool.or_eq_true, decide_eq_true_eq]
    constructor
    · rintro ⟨⟨h1, h2⟩, h3⟩ j hj hj2
      by_cases e : j = i
      · subst e; exact ⟨h1, fun hp => h2.resolve_left (by omega)⟩
      · exact h3 j (by omega) (by omega)
    · intro h
      refine ⟨⟨(h i (Nat.le_refl _) (by omega)).1, ?_⟩, fun j hj hj2 => h j (by omega) (by omega)⟩
      by_cases e : i = 0
      · exact .inl e
      · exact .inr ((h i (Nat.le_refl _) (by omega)).2 (by omega))
theorem rising_iff (l : List Int) (lo hi : Int) : rising l lo hi = true ↔ ∀ j, j < l.length → (lo ≤ rd l j ∧ rd l j ≤ hi) ∧ (0 < j → rd l ((j - 1 : Nat) : Int) < rd l j) := by
  unfold rising
  rw [riseFrom_iff]
  exact ⟨fun h j hj => h j (by omega) (by omega), fun h j _ hj => h j (by omega)⟩
theorem rising_bd {l : List Int} {lo hi : Int} (h : rising l lo hi = true) : ∀ x ∈ l, lo ≤ x ∧ x ≤ hi := by
  intro x hx
  obtain ⟨i, hi, rfl⟩ := List.mem_iff_getElem.1 hx
  have := ((rising_iff l lo _).1 h i hi).1
  rw [rd_eq, List.getD_eq_getElem?_getD, List.getElem?_eq_getElem hi] at this
  exact this
theorem rising_lt {l : List Int} {lo hi : Int} (h : rising l lo hi = true) (i : Nat) : ∀ d, i + d + 1 < l.length → rd l i < rd l ((i + d + 1 : Nat) : Int) := by
  have h' := (rising_iff l lo hi).1 h
  intro d
  induction d with
  | zero => intro hd; exact (h' (i + 1) hd).2 (by omega)
  | succ d ih =>
    intro hd
    have h1 := ih (by omega)
    have h2 := (h' (i + (d + 1) + 1) hd).2 (by omega)
    rw [show i + (d + 1) + 1 - 1 = i + d + 1 by omega] at h2
    omega
theorem rising_len {l : List Int} {lo hi : Int} (h : rising l lo hi = true) (hh : lo ≤ hi + 1) : (l.length : Int) ≤ hi - lo + 1 := by
  have h' := (rising_iff l lo hi).1 h
  have key : ∀ i : Nat, i < l.length → lo + i ≤ rd l i := by
    intro i
    induction i with
    | zero => intro hi; have := (h' 0 hi).1; simpa using this.1
    | succ i ih =>
      intro hi
      have h1 := ih (by omega)
      have h2 := (h' (i + 1) hi).2 (by omega)
      rw [show i + 1 - 1 = i by omega] at h2
      omega
  by_cases e : l.length = 0
  · omega
  · have h1 := key (l.length - 1) (by omega)
    have h2 := (h' (l.length - 1) (by omega)).1
    omega
theorem l1Rising_l0 (l : List Int) (lo hi : Int) (hn : l.length ≤ 100000000000000) (d : Nat) : ∀ (k i : Nat), i + d = l.length → d < k → spec_l1Rising.l0 k l lo hi l (l.length : Int) i = some (riseFrom l lo hi i d) := by
  induction d with
  | zero =>
    intro k i hi' hk
    obtain ⟨k, rfl⟩ := step_k hk
    simp only [spec_l1Rising.l0]; rw [if_neg (by omega)]; rfl
  | succ d ih =>
    intro k i hi' hk
    obtain ⟨k, rfl⟩ := step_k hk
    simp only [spec_l1Rising.l0, l1In_f, Option.bind_some]
    rw [if_pos (by omega), if_pos (by omega), if_pos (by omega), w64s (by omega), ih k (i + 1) (by omega) (by omega)]
    simp only [riseFrom]
    by_cases h1 : inn (rd l i) lo hi = true
    · rw [if_pos h1]
      by_cases h2 : i = 0
      · subst h2; rw [if_neg (by omega), h1]; simp
      · rw [if_pos (by omega), w64 (n := (i : Int) - 1) (by omega) (by omega), if_pos (by omega), if_pos (by omega), show (i : Int) - 1 = ((i - 1 : Nat) : Int) by omega]
        by_cases h3 : rd l ((i - 1 : Nat) : Int) ≥ rd l i
        · rw [if_pos h3]; simp [h2, show ¬ rd l ((i - 1 : Nat) : Int) < rd l i by omega]
        · rw [if_neg h3]; simp [h1, show rd l ((i - 1 : Nat) : Int) < rd l i by omega]
    · rw [if_neg h1]; simp [h1]
theorem l1Rising_f {k : Nat} {l : List Int} {lo hi : Int} (hn : l.length ≤ 100000000000000) (hk : l.length < k) : spec_l1Rising.f k l lo hi = some (rising l lo hi) := by
  unfold spec_l1Rising.f
  exact l1Rising_l0 l lo hi hn l.length k 0 (by omega) hk
theorem isGroup_l0 (l : List Int) (hn : l.length ≤ 100000000000000) (d : Nat) : ∀ (k i : Nat), i + d = l.length → d < k → impl_isGroup.l0 k l l (l.length : Int) i = some (riseFrom l 0 9 i d) := by
  induction d with
  | zero =>
    intro k i hi' hk
    obtain ⟨k, rfl⟩ := step_k hk
    simp only [impl_isGroup.l0]; rw [if_neg (by omega)]; rfl
  | succ d ih =>
    intro k i hi' hk
    obtain ⟨k, rfl⟩ := step_k hk
    simp only [impl_isGroup.l0, within_f, Option.bind_some]
    rw [if_pos (by omega), if_pos (by omega), if_pos (by omega), w64s (by omega), ih k (i + 1) (by omega) (by omega)]
    simp only [riseFrom]
    by_cases h1 : inn (rd l i) 0 9 = true
    · rw [if_pos h1]
      by_cases h2 : i = 0
      · subst h2; rw [if_neg (by omega), h1]; simp
      · rw [if_pos (by omega), w64 (n := (i : Int) - 1) (by omega) (by omega), if_pos (by omega), if_pos (by omega), show (i : Int) - 1 = ((i - 1 : Nat) : Int) by omega]
        by_cases h3 : rd l ((i - 1 : Nat) : Int) ≥ rd l i
        · rw [if_pos h3]; simp [h2, show ¬ rd l ((i - 1 : Nat) : Int) < rd l i by omega]
        · rw [if_neg h3]; simp [h1, show rd l ((i - 1 : Nat) : Int) < rd l i by omega]
    · rw [if_neg h1]; simp [h1]
theorem isGroup_f {k : Nat} {l : List Int} (hn : l.length ≤ 100000000000000) (hk : l.length < k) : impl_isGroup.f k l = some (rising l 0 9) := by
  unfold impl_isGroup.f
  exact isGroup_l0 l hn l.length k 0 (by omega) hk
def okS (l : List Int) : Bool := inn (l.length : Int) 1 10 && allIn l 1 1000
theorem okS_len {l : List Int} (h : okS l = true) : 1 ≤ l.length ∧ l.length ≤ 10 := by
  simp only [okS, Bool.and_eq_true, inn_t] at h; omega
theorem okS_bd {l : List Int} (h : okS l = true) : ∀ x ∈ l, 1 ≤ x ∧ x ≤ 1000 := by
  simp only [okS, Bool.and_eq_true] at h; exact allIn_bd h.2
theorem GoodStakesS_f {k : Nat} {l : List Int} (hn : l.length ≤ 100000000000000) (hk : l.length < k) : spec_GoodStakes.f k l = some (okS l) := by
  unfold spec_GoodStakes.f okS
  simp (disch := assumption) only [l1In_f, l1All_f, Option.bind_some]
  by_cases h : inn (l.length : Int) 1 10 = true
  · rw [if_pos h, h, Bool.true_and]
  · rw [if_neg h]; simp [h]
theorem areStakes_f {k : Nat} {l : List Int} (hn : l.length ≤ 100000000000000) (hk : 30 < k) : impl_areStakes.f k l = some (okS l) := by
  unfold impl_areStakes.f okS
  simp only [within_f, Option.bind_some]
  by_cases h : inn (l.length : Int) 1 10 = true
  · have h2 := inn_t.1 h
    rw [if_pos h, h, Bool.true_and, ContainsFunc_f hn (by omega)]
    simp
  · rw [if_neg h]; simp [h]
def sumL : List Int → Int
  | [] => 0
  | x :: l => x + sumL l
theorem sumL_append (a b : List Int) : sumL (a ++ b) = sumL a + sumL b := by
  induction a with
  | nil => simp [sumL]
  | cons x a ih => simp only [List.cons_append, sumL, ih]; omega
theorem sumL_bd {l : List Int} {M : Int} (h : ∀ x ∈ l, 0 ≤ x ∧ x ≤ M) : 0 ≤ sumL l ∧ sumL l ≤ M * l.length := by
  induction l with
  | nil => simp [sumL]
  | cons x l ih =>
    have h1 := h x (by simp)
    have h2 := ih fun y hy => h y (by simp [hy])
    simp only [sumL, List.length_cons]
    have : M * ((l.length + 1 : Nat) : Int) = M * l.length + M := by rw [Int.natCast_add, Int.mul_add]; simp
    omega
theorem drop_rd (l : List Int) (i : Nat) (h : i < l.length) : l.drop i = rd l i :: l.drop (i + 1) := by
  rw [List.drop_eq_getElem_cons h]
  congr 1
  rw [rd_eq, List.getD_eq_getElem?_getD, List.getElem?_eq_getElem h]; rfl
theorem spec_l1Sum_l0 (l : List Int) (h : ∀ x ∈ l, 0 ≤ x ∧ x ≤ 10000000) (hn : l.length ≤ 1000000) (d : Nat) : ∀ (k i : Nat) (acc : Int), 0 ≤ acc → acc ≤ 10000000 * (i : Int) → i + d = l.length → d < k → spec_l1Sum.l0 k acc l (l.length : Int) i = some (acc + sumL (l.drop i)) := by
  induction d with
  | zero =>
    intro k i acc _ _ hi' hk
    obtain ⟨k, rfl⟩ := step_k hk
    simp only [spec_l1Sum.l0]; rw [if_neg (by omega), List.drop_eq_nil_of_le (by omega)]; simp [sumL]
  | succ d ih =>
    intro k i acc h0 h1 hi' hk
    obtain ⟨k, rfl⟩ := step_k hk
    have hx := h _ (rd_mem l i (by omega))
    simp only [spec_l1Sum.l0]
    rw [if_pos (by omega), if_pos (by omega), if_pos (by omega), w64s (by omega), w64 (n := acc + rd l i) (by omega) (by omega), ih k (i + 1) _ (by omega) (by omega) (by omega) (by omega), drop_rd l i (by omega)]
    simp only [sumL]
    congr 1; omega
theorem spec_l1Sum_f {k : Nat} {l : List Int} (h : ∀ x ∈ l, 0 ≤ x ∧ x ≤ 10000000) (hn : l.length ≤ 1000000) (hk : l.length < k) : spec_l1Sum.f k l = some (sumL l) := by
  unfold spec_l1Sum.f
  have := spec_l1Sum_l0 l h hn l.length k 0 0 (by omega) (by omega) (by omega) hk
  simpa using this
theorem impl_sumOf_l0 (l : List Int) (h : ∀ x ∈ l, 0 ≤ x ∧ x ≤ 10000000) (hn : l.length ≤ 1000000) (d : Nat) : ∀ (k i : Nat) (acc : Int), 0 ≤ acc → acc ≤ 10000000 * (i : Int) → i + d = l.length → d < k → impl_sumOf.l0 k acc l (l.length : Int) i = some (acc + sumL (l.drop i)) := by
  induction d with
  | zero =>
    intro k i acc _ _ hi' hk
    obtain ⟨k, rfl⟩ := step_k hk
    simp only [impl_sumOf.l0]; rw [if_neg (by omega), List.drop_eq_nil_of_le (by omega)]; simp [sumL]
  | succ d ih =>
    intro k i acc h0 h1 hi' hk
    obtain ⟨k, rfl⟩ := step_k hk
    have hx := h _ (rd_mem l i (by omega))
    simp only [impl_sumOf.l0]
    rw [if_pos (by omega), if_pos (by omega), if_pos (by omega), w64s (by omega), w64 (n := acc + rd l i) (by omega) (by omega), ih k (i + 1) _ (by omega) (by omega) (by omega) (by omega), drop_rd l i (by omega)]
    simp only [sumL]
    congr 1; omega
theorem impl_sumOf_f {k : Nat} {l : List Int} (h : ∀ x ∈ l, 0 ≤ x ∧ x ≤ 10000000) (hn : l.length ≤ 1000000) (hk : l.length < k) : impl_sumOf.f k l = some (sumL l) := by
  unfold impl_sumOf.f
  have := impl_sumOf_l0 l h hn l.length k 0 0 (by omega) (by omega) (by omega) hk
  simpa using this
theorem laws_sumOf_l0 (l : List Int) (h : ∀ x ∈ l, 0 ≤ x ∧ x ≤ 10000000) (hn : l.length ≤ 1000000) (d : Nat) : ∀ (k i : Nat) (acc : Int), 0 ≤ acc → acc ≤ 10000000 * (i : Int) → i + d = l.length → d < k → laws_sumOf.l0 k acc l (l.length : Int) i = some (acc + sumL (l.drop i)) := by
  induction d with
  | zero =>
    intro k i acc _ _ hi' hk
    obtain ⟨k, rfl⟩ := step_k hk
    simp only [laws_sumOf.l0]; rw [if_neg (by omega), List.drop_eq_nil_of_le (by omega)]; simp [sumL]
  | succ d ih =>
    intro k i acc h0 h1 hi' hk
    obtain ⟨k, rfl⟩ := step_k hk
    have hx := h _ (rd_mem l i (by omega))
    simp only [laws_sumOf.l0]
    rw [if_pos (by omega), if_pos (by omega), if_pos (by omega), w64s (by omega), w64 (n := acc + rd l i) (by omega) (by omega), ih k (i + 1) _ (by omega) (by omega) (by omega) (by omega), drop_rd l i (by omega)]
    simp only [sumL]
    congr 1; omega
theorem laws_sumOf_f {k : Nat} {l : List Int} (h : ∀ x ∈ l, 0 ≤ x ∧ x ≤ 10000000) (hn : l.length ≤ 1000000) (hk : l.length < k) : laws_sumOf.f k l = some (sumL l) := by
  unfold laws_sumOf.f
  have := laws_sumOf_l0 l h hn l.length k 0 0 (by omega) (by omega) (by omega) hk
  simpa using this
theorem okS_big {l : List Int} (h : okS l = true) : ∀ x ∈ l, 0 ≤ x ∧ x ≤ 10000000 := fun x hx => by have := okS_bd h x hx; omega
theorem okS_sum {l : List Int} (h : okS l = true) : 1 ≤ sumL l ∧ sumL l ≤ 10000 := by
  have h1 := sumL_bd (M := 1000) fun x hx => (by have := okS_bd h x hx; omega : 0 ≤ x ∧ x ≤ 1000)
  have h2 := okS_len h
  refine ⟨?_, by omega⟩
  match l, h, h2 with
  | x :: r, h, _ =>
    have h3 := okS_bd h x (by simp)
    have h4 := sumL_bd (l := r) (M := 1000) fun y hy => (by have := okS_bd h y (by simp [hy]); omega : 0 ≤ y ∧ y ≤ 1000)
    simp only [sumL]
    omega
theorem wrapu {n : Int} (h0 : 0 ≤ n) (h1 : n ≤ 1000) : IntKind.u64.wrap n = n := by
  simp [IntKind.wrap, IntKind.bits, IntKind.signed]; omega
theorem wraps_i64 (n : Int) (h₀ : 0 ≤ n) (h₁ : n < 2 ^ 62) : IntKind.i64.wrap n = n := by rw [IntKind.wrap_i64]; omega
theorem or_nat {a b : Nat} (ha : a < 2 ^ 62) (hb : b < 2 ^ 62) : Go.bits .or .i64 (a : Int) (b : Int) = ((a ||| b : Nat) : Int) := (bits_nat .i64 62 (by decide) wraps_i64 a b ha hb).2
theorem and_nat {a b : Nat} (ha : a < 2 ^ 62) (hb : b < 2 ^ 62) : Go.bits .and .i64 (a : Int) (b : Int) = ((a &&& b : Nat) : Int) := (bits_nat .i64 62 (by decide) wraps_i64 a b ha hb).1
theorem shl_one {x : Int} (h0 : 0 ≤ x) (h : x ≤ 61) : shl .i64 1 x = ((2 ^ x.toNat : Nat) : Int) := by
  unfold shl
  rw [Nat.min_eq_left (by simp [IntKind.bits]; omega), Int.one_mul]
  have e : (2 : Int) ^ x.toNat = ((2 ^ x.toNat : Nat) : Int) := by simp
  rw [e]
  have hl : (2 ^ x.toNat : Nat) < 2 ^ 62 := Nat.pow_lt_pow_right (by omega) (by omega)
  exact wraps_i64 _ (Int.natCast_nonneg _) (by exact_mod_cast hl)
def orAll (l : List Int) (m : Nat) : Nat := l.foldl (fun m x => m ||| 2 ^ x.toNat) m
theorem orAll_lt (l : List Int) (h : ∀ x ∈ l, 0 ≤ x ∧ x ≤ 9) : ∀ m, m < 1024 → orAll l m < 1024 := by
  induction l with
  | nil => intro m hm; exact hm
  | cons x l ih =>
    intro m hm
    have hx := h x (by simp)
    refine ih (fun y hy => h y (by simp [hy])) _ ?_
    exact Nat.or_lt_two_pow (n := 10) hm (Nat.pow_lt_pow_right (by omega) (by omega))
theorem orAll_bit (l : List Int) (h : ∀ x ∈ l, 0 ≤ x) (i : Nat) : ∀ m, (orAll l m).testBit i = (m.testBit i || decide ((i : Int) ∈ l)) := by
  induction l with
  | nil => intro m; simp [orAll]
  | cons x l ih =>
    intro m
    have hx := h x (by simp)
    show (orAll l (m ||| 2 ^ x.toNat)).testBit i = _
    rw [ih (fun y hy => h y (by simp [hy])), Nat.testBit_or, Nat.testBit_two_pow]
    by_cases e : x.toNat = i
    · have : (i : Int) = x := by omega
      simp [e, this]
    · have : ¬ (i : Int) = x := by omega
      simp [e, this]
theorem shr_eq {x y : Int} (h0 : 0 ≤ y) (h : y ≤ 64) : shr .i64 x y = x / 2 ^ y.toNat := by
  unfold shr; rw [Nat.min_eq_left (by simp [IntKind.bits]; omega)]
def bitOn (m : Int) (i : Nat) : Bool := decide (Go.bits .and .i64 (shr .i64 m i) 1 = 1)
def maskFrom (m : Int) : Nat → List Int
  | 0 => []
  | d + 1 => (if bitOn m (10 - (d + 1)) then [((10 - (d + 1) : Nat) : Int)] else []) ++ maskFrom m d
def maskList (m : Int) : List Int := maskFrom m 10
theorem l1Mask_l0 (m : Int) (d : Nat) : ∀ (k : Nat) (acc : List Int) (i : Nat), i + d = 10 → d < k → acc.length + d ≤ 10 →
    spec_l1Mask.l0 k m acc i = some (acc ++ maskFrom m d) := by
  induction d with
  | zero =>
    intro k acc i hi hk _
    obtain ⟨k, rfl⟩ := step_k hk
    simp only [spec_l1Mask.l0]; rw [if_neg (by omega)]; simp [maskFrom]
  | succ d ih =>
    intro k acc i hi hk hl
    obtain ⟨k, rfl⟩ := step_k hk
    simp only [spec_l1Mask.l0]
    rw [wrapu (by omega) (by omega), if_pos (by omega), if_pos (by omega), w64s (by omega)]
    have e : 10 - (d + 1) = i := by omega
    by_cases hb : Go.bits .and .i64 (shr .i64 m i) 1 = 1
    · rw [if_pos hb, if_pos (by omega), ih k _ (i + 1) (by omega) (by omega) (by simp; omega)]
      simp only [maskFrom, bitOn, e, hb, decide_true, if_true, List.append_assoc]
    · rw [if_neg hb, ih k _ (i + 1) (by omega) (by omega) (by omega)]
      simp only [maskFrom, bitOn, e, hb, decide_false, Bool.false_eq_true, if_false, List.nil_append]
theorem l1Mask_f {k : Nat} {m : Int} (hk : 10 < k) : spec_l1Mask.f k m = some (maskList m) := by
  unfold spec_l1Mask.f
  rw [show (0 : Int) = ((0 : Nat) : Int) from rfl, l1Mask_l0 m 10 k [] 0 (by omega) hk (by simp)]
  rw [List.nil_append, maskList]
theorem ofMask_l0 (m : Int) (d : Nat) : ∀ (k : Nat) (acc : List Int) (i : Nat), i + d = 10 → d < k → acc.length + d ≤ 10 →
    impl_ofMask.l0 k m acc i = some (acc ++ maskFrom m d) := by
  induction d with
  | zero =>
    intro k acc i hi hk _
    obtain ⟨k, rfl⟩ := step_k hk
    simp only [impl_ofMask.l0]; rw [if_neg (by omega)]; simp [maskFrom]
  | succ d ih =>
    intro k acc i hi hk hl
    obtain ⟨k, rfl⟩ := step_k hk
    simp only [impl_ofMask.l0]
    rw [if_pos (by omega), if_pos (by omega), w64s (by omega)]
    have e : 10 - (d + 1) = i := by omega
    by_cases hb : Go.bits .and .i64 (shr .i64 m i) 1 = 1
    · rw [if_pos hb, if_pos (by omega), ih k _ (i + 1) (by omega) (by omega) (by simp; omega)]
      simp only [maskFrom, bitOn, e, hb, decide_true, if_true, List.append_assoc]
    · rw [if_neg hb, ih k _ (i + 1) (by omega) (by omega) (by omega)]
      simp only [maskFrom, bitOn, e, hb, decide_false, Bool.false_eq_true, if_false, List.nil_append]
theorem ofMask_f {k : Nat} {m : Int} (hk : 10 < k) : impl_ofMask.f k m = some (maskList m) := by
  unfold impl_ofMask.f
  rw [show (0 : Int) = ((0 : Nat) : Int) from rfl, ofMask_l0 m 10 k [] 0 (by omega) hk (by simp)]
  rw [List.nil_append, maskList]
theorem maskFrom_len (m : Int) (d : Nat) : (maskFrom m d).length ≤ d := by
  induction d with
  | zero => simp [maskFrom]
  | succ d ih => simp only [maskFrom, List.length_append]; split <;> simp <;> omega
theorem maskList_len (m : Int) : (maskList m).length ≤ 10 := maskFrom_len m 10
theorem maskOf_l0 (l : List Int) (h : ∀ x ∈ l, 0 ≤ x ∧ x ≤ 9) (hn : l.length ≤ 100000000000000) (d : Nat) : ∀ (k i m : Nat), m < 1024 → i + d = l.length → d < k → impl_maskOf.l0 k (m : Int) l (l.length : Int) i = some ((orAll (l.drop i) m : Nat) : Int) := by
  induction d with
  | zero =>
    intro k i m hm hi' hk
    obtain ⟨k, rfl⟩ := step_k hk
    simp only [impl_maskOf.l0]; rw [if_neg (by omega), List.drop_eq_nil_of_le (by omega)]; rfl
  | succ d ih =>
    intro k i m hm hi' hk
    obtain ⟨k, rfl⟩ := step_k hk
    simp only [impl_maskOf.l0]
    have hx := h _ (rd_mem l i (by omega))
    have hp : 2 ^ (rd l i).toNat < 2 ^ 10 := Nat.pow_lt_pow_right (by omega) (by omega)
    rw [if_pos (by omega), if_pos (by omega), if_pos (by omega), if_pos hx.1, w64s (by omega), shl_one hx.1 (by omega), or_nat (by omega) (by omega)]
    have hlt : m ||| 2 ^ (rd l i).toNat < 1024 := Nat.or_lt_two_pow (n := 10) hm hp
    rw [ih k (i + 1) _ hlt (by omega) (by omega)]
    have e : l.drop i = rd l i :: l.drop (i + 1) := by
      rw [List.drop_eq_getElem_cons (by omega)]
      congr 1
      rw [rd_eq, List.getD_eq_getElem?_getD, List.getElem?_eq_getElem (by omega)]; rfl
    rw [e]; rfl
theorem maskOf_f {k : Nat} {l : List Int} (h : ∀ x ∈ l, 0 ≤ x ∧ x ≤ 9) (hn : l.length ≤ 100000000000000) (hk : l.length < k) : impl_maskOf.f k l = some ((orAll l 0 : Nat) : Int) := by
  unfold impl_maskOf.f
  exact maskOf_l0 l h hn l.length k 0 0 (by omega) (by omega) hk
theorem MaskOfS_l0 (l : List Int) (h : ∀ x ∈ l, 0 ≤ x ∧ x ≤ 9) (hn : l.length ≤ 100000000000000) (d : Nat) : ∀ (k i m : Nat), m < 1024 → i + d = l.length → d < k → spec_MaskOf.l0 k (m : Int) l (l.length : Int) i = some (((orAll (l.drop i) m : Nat) : Int), true) := by
  induction d with
  | zero =>
    intro k i m hm hi' hk
    obtain ⟨k, rfl⟩ := step_k hk
    simp only [spec_MaskOf.l0]; rw [if_neg (by omega), List.drop_eq_nil_of_le (by omega)]; rfl
  | succ d ih =>
    intro k i m hm hi' hk
    obtain ⟨k, rfl⟩ := step_k hk
    simp only [spec_MaskOf.l0]
    have hx := h _ (rd_mem l i (by omega))
    have hp : 2 ^ (rd l i).toNat < 2 ^ 10 := Nat.pow_lt_pow_right (by omega) (by omega)
    rw [if_pos (by omega), if_pos (by omega), if_pos (by omega), wrapu hx.1 (by omega), if_pos hx.1, w64s (by omega), shl_one hx.1 (by omega), or_nat (by omega) (by omega)]
    have hlt : m ||| 2 ^ (rd l i).toNat < 1024 := Nat.or_lt_two_pow (n := 10) hm hp
    rw [ih k (i + 1) _ hlt (by omega) (by omega)]
    have e : l.drop i = rd l i :: l.drop (i + 1) := by
      rw [List.drop_eq_getElem_cons (by omega)]
      congr 1
      rw [rd_eq, List.getD_eq_getElem?_getD, List.getElem?_eq_getElem (by omega)]; rfl
    rw [e]; rfl
theorem MaskOfS_f {k : Nat} {l : List Int} (hn : l.length ≤ 100000000000000) (hk : l.length < k) : spec_MaskOf.f k l = some (if rising l 0 9 then (((orAll l 0 : Nat) : Int), true) else (0, false)) := by
  unfold spec_MaskOf.f spec_l1Group.f
  simp (disch := assumption) only [l1Rising_f, Option.bind_some]
  by_cases h : rising l 0 9 = true
  · rw [if_pos h, if_pos h]
    exact MaskOfS_l0 l (rising_bd h) hn l.length k 0 0 (by omega) (by omega) hk
  · rw [if_neg h, if_neg h]
theorem bitOn_eq {m : Nat} (hm : m < 1024) {i : Nat} (hi : i ≤ 20) : bitOn (m : Int) i = m.testBit i := by
  unfold bitOn
  rw [shr_eq (by omega) (by omega), Int.toNat_natCast]
  have e : ((m : Int) / 2 ^ i) = ((m / 2 ^ i : Nat) : Int) := by simp
  have hq : m / 2 ^ i ≤ m := Nat.div_le_self _ _
  have e2 := and_nat (a := m / 2 ^ i) (b := 1) (by omega) (by omega)
  rw [e, show (1 : Int) = ((1 : Nat) : Int) from rfl, e2, Nat.and_one_is_mod, Nat.testBit_eq_decide_div_mod_eq]
  congr 1
  apply propext
  omega
theorem maskFrom_eq {m : Nat} (hm : m < 1024) : ∀ d, d ≤ 10 → maskFrom (m : Int) d = ((List.range' (10 - d) d).filter fun i => m.testBit i).map fun i : Nat => (i : Int) := by
  intro d
  induction d with
  | zero => intro _; rfl
  | succ d ih =>
    intro hd
    rw [List.range'_succ, List.filter_cons]
    simp only [maskFrom]
    rw [ih (by omega), bitOn_eq hm (by omega), show 10 - (d + 1) + 1 = 10 - d by omega]
    split <;> simp
theorem maskList_eq {m : Nat} (hm : m < 1024) : maskList (m : Int) = ((List.range 10).filter fun i => m.testBit i).map fun i : Nat => (i : Int) := by
  unfold maskList
  rw [maskFrom_eq hm 10 (by omega), List.range_eq_range']
theorem sorted_ext : ∀ (a b : List Int), a.Pairwise (· < ·) → b.Pairwise (· < ·) → (∀ x, x ∈ a ↔ x ∈ b) → a = b := by
  intro a
  induction a with
  | nil =>
    intro b _ _ h
    cases b with
    | nil => rfl
    | cons y b => exact absurd ((h y).2 (by simp)) (by simp)
  | cons x a ih =>
    intro b ha hb h
    cases b with
    | nil => exact absurd ((h x).1 (by simp)) (by simp)
    | cons y b =>
      rw [List.pairwise_cons] at ha hb
      have e : x = y := by
        have h1 := (h x).1 (by simp)
        have h2 := (h y).2 (by simp)
        rcases List.mem_cons.1 h1 with h1 | h1
        · exact h1
        · rcases List.mem_cons.1 h2 with h2 | h2
          · exact h2.symm
          · have := ha.1 y h2; have := hb.1 x h1; omega
      subst e
      congr 1
      refine ih b ha.2 hb.2 fun z => ⟨fun hz => ?_, fun hz => ?_⟩
      · rcases List.mem_cons.1 ((h z).1 (List.mem_cons_of_mem _ hz)) with h1 | h1
        · have := ha.1 z hz; omega
        · exact h1
      · rcases List.mem_cons.1 ((h z).2 (List.mem_cons_of_mem _ hz)) with h1 | h1
        · have := hb.1 z hz; omega
        · exact h1
theorem rd_getElem (l : List Int) (i : Nat) (h : i < l.length) : rd l (i : Int) = l[i] := by
  rw [rd_eq, List.getD_eq_getElem?_getD, List.getElem?_eq_getElem h]; rfl
theorem rising_sorted {l : List Int} {lo hi : Int} (h : rising l lo hi = true) : l.Pairwise (· < ·) := by
  rw [List.pairwise_iff_getElem]
  intro i j hi' hj hij
  have := rising_lt h i (j - i - 1) (by omega)
  rw [show i + (j - i - 1) + 1 = j by omega, rd_getElem l i hi', rd_getElem l j hj] at this
  exact this
theorem maskList_sorted {m : Nat} (hm : m < 1024) : (maskList (m : Int)).Pairwise (· < ·) := by
  rw [maskList_eq hm, List.pairwise_map]
  refine List.Pairwise.imp ?_ ((List.pairwise_lt_range (n := 10)).filter _)
  intro a b h; omega
theorem maskList_mem {m : Nat} (hm : m < 1024) (x : Int) : x ∈ maskList (m : Int) ↔ 0 ≤ x ∧ x ≤ 9 ∧ m.testBit x.toNat = true := by
  rw [maskList_eq hm]
  simp only [List.mem_map, List.mem_filter, List.mem_range]
  constructor
  · rintro ⟨i, ⟨h1, h2⟩, rfl⟩
    exact ⟨by omega, by omega, by simpa using h2⟩
  · rintro ⟨h1, h2, h3⟩
    exact ⟨x.toNat, ⟨by omega, h3⟩, by omega⟩
/-- A rising group is the list of its own bits. -/
theorem maskList_orAll {a : List Int} (h : rising a 0 9 = true) : maskList ((orAll a 0 : Nat) : Int) = a := by
  have hb := rising_bd h
  have hlt := orAll_lt a hb 0 (by omega)
  refine sorted_ext _ _ (maskList_sorted hlt) (rising_sorted h) fun x => ?_
  rw [maskList_mem hlt, orAll_bit a (fun y hy => (hb y hy).1)]
  simp only [Nat.zero_testBit, Bool.false_or, decide_eq_true_eq]
  constructor
  · rintro ⟨h1, h2, h3⟩; rwa [show ((x.toNat : Nat) : Int) = x by omega] at h3
  · intro hx
    have := hb x hx
    exact ⟨this.1, this.2, by rwa [show ((x.toNat : Nat) : Int) = x by omega]⟩
theorem maskList_and {a b : List Int} (ha : rising a 0 9 = true) (hb : rising b 0 9 = true) : maskList ((orAll a 0 &&& orAll b 0 : Nat) : Int) = a.filter fun x => decide (x ∈ b) := by
  have h1 := rising_bd ha
  have h2 := rising_bd hb
  have l1 := orAll_lt a h1 0 (by omega)
  have l2 := orAll_lt b h2 0 (by omega)
  have l3 : orAll a 0 &&& orAll b 0 < 1024 := Nat.lt_of_le_of_lt Nat.and_le_left l1
  refine sorted_ext _ _ (maskList_sorted l3) ((rising_sorted ha).filter _) fun x => ?_
  rw [maskList_mem l3, Nat.testBit_and, orAll_bit a (fun y hy => (h1 y hy).1), orAll_bit b (fun y hy => (h2 y hy).1)]
  simp only [Nat.zero_testBit, Bool.false_or, decide_eq_true_eq, Bool.and_eq_true, List.mem_filter]
  constructor
  · rintro ⟨h3, h4, h5⟩; rwa [show ((x.toNat : Nat) : Int) = x by omega] at h5
  · intro hx
    have := h1 x hx.1
    exact ⟨this.1, this.2, by rwa [show ((x.toNat : Nat) : Int) = x by omega]⟩
def wM (l : List Int) (m : Int) : Nat → Nat → Int
  | _, 0 => 0
  | i, d + 1 => (if bitOn m i then rd l i else 0) + wM l m (i + 1) d
def wOf (l : List Int) (m : Int) : Int := wM l m 0 l.length
theorem rd_off (l : List Int) (i : Nat) (h : l.length ≤ i) : rd l i = 0 := by
  rw [rd_eq, List.getD_eq_getElem?_getD, List.getElem?_eq_none h]; rfl
theorem wM_off (l : List Int) (m : Int) : ∀ d i, l.length ≤ i → wM l m i d = 0 := by
  intro d
  induction d with
  | zero => intro i _; rfl
  | succ d ih => intro i h; simp only [wM]; rw [ih (i + 1) (by omega), rd_off l i h]; simp
theorem wM_add (l : List Int) (m : Int) (b : Nat) : ∀ a i, wM l m i (a + b) = wM l m i a + wM l m (i + a) b := by
  intro a
  induction a with
  | zero => intro i; simp [wM]
  | succ a ih => intro i; rw [show a + 1 + b = (a + b) + 1 by omega]; simp only [wM]; rw [ih, show i + 1 + a = i + (a + 1) by omega]; omega
theorem wM_list (l : List Int) (m : Int) : ∀ d, d ≤ 10 → sumL ((maskFrom m d).map (rd l)) = wM l m (10 - d) d := by
  intro d
  induction d with
  | zero => intro _; rfl
  | succ d ih =>
    intro hd
    simp only [maskFrom, wM]
    rw [List.map_append, sumL_append, ih (by omega), show 10 - (d + 1) + 1 = 10 - d by omega]
    split <;> simp [sumL]
theorem wOf_list {l : List Int} {m : Int} (h : l.length ≤ 10) : sumL ((maskList m).map (rd l)) = wOf l m := by
  unfold maskList wOf
  have e := wM_add l m (10 - l.length) l.length 0
  rw [wM_off l m (10 - l.length) (0 + l.length) (by omega), show l.length + (10 - l.length) = 10 by omega] at e
  rw [wM_list l m 10 (by omega)]
  simpa using e
theorem wM_bd {l : List Int} {m : Int} (h : ∀ x ∈ l, 1 ≤ x ∧ x ≤ 1000) : ∀ d i, 0 ≤ wM l m i d ∧ wM l m i d ≤ 1000 * (d : Int) := by
  intro d
  induction d with
  | zero => intro i; simp [wM]
  | succ d ih =>
    intro i
    have h2 := ih (i + 1)
    have h3 : 0 ≤ rd l i ∧ rd l i ≤ 1000 := by
      by_cases e : i < l.length
      · have := h _ (rd_mem l i e); omega
      · rw [rd_off l i (by omega)]; omega
    simp only [wM]
    split <;> omega
theorem wOf_bd {l : List Int} {m : Int} (h : okS l = true) : 0 ≤ wOf l m ∧ wOf l m ≤ 10000 := by
  have := wM_bd (m := m) (okS_bd h) l.length 0
  have := okS_len h
  unfold wOf; omega
theorem weightOf_l0 {l : List Int} (h : okS l = true) (m : Int) (d : Nat) : ∀ (k i : Nat) (acc : Int), 0 ≤ acc → acc ≤ 1000 * (i : Int) → i + d = l.length → d < k → impl_weightOf.l0 k m acc l (l.length : Int) i = some (acc + wM l m i d) := by
  have hl := okS_len h
  induction d with
  | zero =>
    intro k i acc _ _ hi' hk
    obtain ⟨k, rfl⟩ := step_k hk
    simp only [impl_weightOf.l0]; rw [if_neg (by omega)]; simp [wM]
  | succ d ih =>
    intro k i acc h0 h1 hi' hk
    obtain ⟨k, rfl⟩ := step_k hk
    have hx := okS_bd h _ (rd_mem l i (by omega))
    simp only [impl_weightOf.l0]
    rw [if_pos (by omega), if_pos (by omega), if_pos (by omega), w64s (by omega), w64 (n := acc + rd l i) (by omega) (by omega)]
    simp only [wM, bitOn]
    by_cases hb : Go.bits .and .i64 (shr .i64 m i) 1 = 1
    · rw [if_pos hb, ih k (i + 1) _ (by omega) (by omega) (by omega) (by omega)]; simp only [hb, decide_true, if_true]; congr 1; omega
    · rw [if_neg hb, ih k (i + 1) _ (by omega) (by omega) (by omega) (by omega)]; simp only [hb, decide_false, Bool.false_eq_true, if_false]; congr 1; omega
theorem weightOf_f {k : Nat} {l : List Int} {m : Int} (h : okS l = true) (hk : 10 < k) : impl_weightOf.f k l m = some (wOf l m) := by
  have hl := okS_len h
  unfold impl_weightOf.f
  have := weightOf_l0 h m l.length k 0 0 (by omega) (by omega) (by omega) (by omega)
  rw [show ((0 : Nat) : Int) = 0 from rfl] at this
  rw [this, wOf]; simp
theorem l1Weight_l0 {l w : List Int} (h : okS l = true) (hw : ∀ x ∈ w, 0 ≤ x ∧ x < l.length) (hn : w.length ≤ 2000000) (d : Nat) : ∀ (k i : Nat) (acc : Int), 0 ≤ acc → acc ≤ 1000 * (i : Int) → i + d = w.length → d < k → spec_l1Weight.l0 k l acc w (w.length : Int) i = some (acc + sumL ((w.drop i).map (rd l))) := by
  have hl := okS_len h
  induction d with
  | zero =>
    intro k i acc _ _ hi' hk
    obtain ⟨k, rfl⟩ := step_k hk
    simp only [spec_l1Weight.l0]; rw [if_neg (by omega), List.drop_eq_nil_of_le (by omega)]; simp [sumL]
  | succ d ih =>
    intro k i acc h0 h1 hi' hk
    obtain ⟨k, rfl⟩ := step_k hk
    have hx := hw _ (rd_mem w i (by omega))
    have hy := okS_bd h _ (rd_mem l (rd w i).toNat (by omega))
    rw [show (((rd w i).toNat : Nat) : Int) = rd w i by omega] at hy
    simp only [spec_l1Weight.l0]
    rw [if_pos (by omega), if_pos (by omega), if_pos (by omega), if_pos (by omega), if_pos (by omega), w64s (by omega), w64 (n := acc + rd l (rd w i)) (by omega) (by omega), ih k (i + 1) _ (by omega) (by omega) (by omega) (by omega), drop_rd w i (by omega)]
    simp only [List.map_cons, sumL]
    congr 1; omega
theorem l1Weight_f {k : Nat} {l w : List Int} (h : okS l = true) (hw : ∀ x ∈ w, 0 ≤ x ∧ x < l.length) (hn : w.length ≤ 2000000) (hk : w.length < k) : spec_l1Weight.f k l w = some (sumL (w.map (rd l))) := by
  unfold spec_l1Weight.f
  have := l1Weight_l0 h hw hn w.length k 0 0 (by omega) (by omega) (by omega) hk
  simpa using this
theorem rising_split {w : List Int} {n : Int} (h1 : 1 ≤ n) (h2 : n ≤ 10) : rising w 0 (n - 1) = (rising w 0 9 && (decide (w.length = 0) || decide (rd w ((w.length - 1 : Nat) : Int) < n))) := by
  rw [Bool.eq_iff_iff]
  simp only [Bool.and_eq_true, Bool.or_eq_true, decide_eq_true_eq]
  constructor
  · intro h
    have h' := (rising_iff _ _ _).1 h
    refine ⟨(rising_iff _ _ _).2 fun j hj => ⟨by have := (h' j hj).1; omega, (h' j hj).2⟩, ?_⟩
    by_cases e : w.length = 0
    · exact .inl e
    · refine .inr ?_
      have := (h' (w.length - 1) (by omega)).1
      omega
  · rintro ⟨h, he⟩
    have h' := (rising_iff _ _ _).1 h
    refine (rising_iff _ _ _).2 fun j hj => ⟨?_, (h' j hj).2⟩
    have h3 := he.resolve_left (by omega)
    have h4 := (h' j hj).1
    by_cases e : j = w.length - 1
    · subst e; omega
    · have := rising_lt h j (w.length - 1 - j - 1) (by omega)
      rw [show j + (w.length - 1 - j - 1) + 1 = w.length - 1 by omega] at this
      omega
def groupOk (l w : List Int) : Bool := okS l && rising w 0 ((l.length : Int) - 1)
theorem groupOk_w {l w : List Int} (h : groupOk l w = true) : okS l = true ∧ rising w 0 9 = true ∧ (∀ x ∈ w, 0 ≤ x ∧ x < l.length) ∧ w.length ≤ 10 := by
  unfold groupOk at h
  rw [Bool.and_eq_true] at h
  have hl := okS_len h.1
  have h2 := h.2
  rw [rising_split (by omega) (by omega), Bool.and_eq_true] at h2
  have h4 := rising_len h2.1 (by omega)
  exact ⟨h.1, h2.1, fun x hx => (by have := rising_bd h.2 x hx; omega), by omega⟩
theorem spec_l1Of_f {k : Nat} {l w : List Int} (hl : l.length ≤ 100000000000000) (hn : w.length ≤ 100000000000000) (hk : l.length < k) (hk' : w.length < k) : spec_l1Of.f k l w = some (groupOk l w) := by
  unfold spec_l1Of.f groupOk
  simp (disch := assumption) only [GoodStakesS_f, Option.bind_some]
  by_cases h : okS l = true
  · have := okS_len h
    rw [if_pos h, h, Bool.true_and, w64 (n := (l.length : Int) - 1) (by omega) (by omega), l1Rising_f hn hk']; rfl
  · rw [if_neg h]; simp [h]
theorem isGroupOf_f {k : Nat} {l w : List Int} (hl : l.length ≤ 100000000000000) (hn : w.length ≤ 100000000000000) (hk : 30 < k) (hk' : w.length < k) : impl_isGroupOf.f k l w = some (groupOk l w) := by
  unfold impl_isGroupOf.f groupOk
  simp (disch := omega) only [areStakes_f, isGroup_f, Option.bind_some]
  by_cases h : okS l = true
  · have := okS_len h
    rw [if_pos h, h, Bool.true_and, rising_split (by omega) (by omega)]
    by_cases h2 : rising w 0 9 = true
    · rw [if_pos h2, h2, Bool.true_and]
      by_cases e : w.length = 0
      · rw [if_pos (by omega)]; simp [e]
      · rw [if_neg (by omega), w64 (n := (w.length : Int) - 1) (by omega) (by omega), if_pos (by omega), if_pos (by omega), show ((w.length : Int) - 1) = ((w.length - 1 : Nat) : Int) by omega]
        simp [e]
    · rw [if_neg h2]; simp [h2]
  · rw [if_neg h]; simp [h]
def weightRes (l w : List Int) : Int × Bool := if groupOk l w then (sumL (w.map (rd l)), true) else (0, false)
theorem spec_WeightOf_f {k : Nat} {l w : List Int} (hl : l.length ≤ 1048576) (hn : w.length ≤ 1048576) (hk : 1048700 < k) : spec_WeightOf.f k l w = some (weightRes l w) := by
  unfold spec_WeightOf.f weightRes
  simp (disch := omega) only [spec_l1Of_f, Option.bind_some]
  by_cases h : groupOk l w = true
  · obtain ⟨h1, h2, h3, h4⟩ := groupOk_w h
    rw [if_pos h, if_pos h, l1Weight_f h1 h3 (by omega) (by omega)]; rfl
  · rw [if_neg h, if_neg h]
theorem impl_WeightOf_f {k : Nat} {l w : List Int} (hl : l.length ≤ 1048576) (hn : w.length ≤ 1048576) (hk : 1048700 < k) : impl_WeightOf.f k l w = some (weightRes l w) := by
  unfold impl_WeightOf.f weightRes
  simp (disch := omega) only [isGroupOf_f, Option.bind_some]
  by_cases h : groupOk l w = true
  · obtain ⟨h1, h2, h3, h4⟩ := groupOk_w h
    have := okS_len h1
    rw [if_pos h, if_pos h, maskOf_f (rising_bd h2) (by omega) (by omega)]
    simp only [Option.bind_some]
    rw [weightOf_f h1 (by omega), ← wOf_list (by omega), maskList_orAll h2]; rfl
  · rw [if_neg h, if_neg h]
def quor (l : List Int) (w : Int) : Bool := decide (3 * w ≥ 2 * sumL l)
def greatRes (l w : List Int) : Bool × Bool := if groupOk l w then (quor l (sumL (w.map (rd l))), true) else (false, false)
theorem isQuorum_f {k : Nat} {l : List Int} {m : Int} (h : okS l = true) (hk : 30 < k) : impl_isQuorum.f k l m = some (quor l (wOf l m)) := by
  unfold impl_isQuorum.f quor
  have h1 := okS_len h
  have h2 := okS_sum h
  have h3 := wOf_bd (m := m) h
  rw [weightOf_f h (by omega), impl_sumOf_f (okS_big h) (by omega) (by omega)]
  simp only [Option.bind_some]
  rw [w64 (n := 3 * wOf l m) (by omega) (by omega), w64 (n := 2 * sumL l) (by omega) (by omega)]
theorem map_bd {l w : List Int} (h : okS l = true) (hw : ∀ x ∈ w, 0 ≤ x ∧ x < l.length) (hn : w.length ≤ 10) : 0 ≤ sumL (w.map (rd l)) ∧ sumL (w.map (rd l)) ≤ 10000 := by
  have := sumL_bd (l := w.map (rd l)) (M := 1000) fun y hy => by
    obtain ⟨x, hx, rfl⟩ := List.mem_map.1 hy
    have h1 := hw x hx
    have h2 := okS_bd h _ (rd_mem l x.toNat (by omega))
    rw [show ((x.toNat : Nat) : Int) = x by omega] at h2
    omega
  simp at this
  omega
theorem spec_l1Great_f {k : Nat} {l w : List Int} (h : okS l = true) (hw : ∀ x ∈ w, 0 ≤ x ∧ x < l.length) (hn : w.length ≤ 10) (hk : 30 < k) : spec_l1Great.f k l w = some (quor l (sumL (w.map (rd l)))) := by
  unfold spec_l1Great.f quor
  have h1 := okS_len h
  have h2 := okS_sum h
  have h3 := map_bd h hw hn
  rw [l1Weight_f h hw (by omega) (by omega), spec_l1Sum_f (okS_big h) (by omega) (by omega)]
  simp only [Option.bind_some]
  rw [w64 (n := 3 * sumL (w.map (rd l))) (by omega) (by omega), w64 (n := 2 * sumL l) (by omega) (by omega)]
theorem spec_IsGreat_f {k : Nat} {l w : List Int} (hl : l.length ≤ 1048576) (hn : w.length ≤ 1048576) (hk : 1048700 < k) : spec_IsGreat.f k l w = some (greatRes l w) := by
  unfold spec_IsGreat.f greatRes
  simp (disch := omega) only [spec_l1Of_f, Option.bind_some]
  by_cases h : groupOk l w = true
  · obtain ⟨h1, h2, h3, h4⟩ := groupOk_w h
    rw [if_pos h, if_pos h, spec_l1Great_f h1 h3 (by omega) (by omega)]; rfl
  · rw [if_neg h, if_neg h]
theorem impl_IsGreat_f {k : Nat} {l w : List Int} (hl : l.length ≤ 1048576) (hn : w.length ≤ 1048576) (hk : 1048700 < k) : impl_IsGreat.f k l w = some (greatRes l w) := by
  unfold impl_IsGreat.f greatRes
  simp (disch := omega) only [isGroupOf_f, Option.bind_some]
  by_cases h : groupOk l w = true
  · obtain ⟨h1, h2, h3, h4⟩ := groupOk_w h
    have := okS_len h1
    rw [if_pos h, if_pos h, maskOf_f (rising_bd h2) (by omega) (by omega)]
    simp only [Option.bind_some]
    rw [isQuorum_f h1 (by omega), ← wOf_list (by omega), maskList_orAll h2]; rfl
  · rw [if_neg h, if_neg h]
theorem sub_lt {n m : Nat} (hn : n ≤ 10) (hm : m < 2 ^ n) : m < 1024 := by
  have : 2 ^ n ≤ 2 ^ 10 := Nat.pow_le_pow_right (by omega) hn
  omega
theorem mask_in {n m : Nat} (hn : n ≤ 10) (hm : m < 2 ^ n) : ∀ x ∈ maskList (m : Int), 0 ≤ x ∧ x < n := by
  intro x hx
  have h := (maskList_mem (sub_lt hn hm) x).1 hx
  refine ⟨h.1, ?_⟩
  by_cases e : x < n
  · exact e
  · have h2 : 2 ^ n ≤ 2 ^ x.toNat := Nat.pow_le_pow_right (by omega) (by omega)
    rw [Nat.testBit_lt_two_pow (by omega)] at h
    simp at h
theorem shl_full {n : Nat} (hn : n ≤ 10) : shl .i64 1 (IntKind.u64.wrap (n : Int)) = ((2 ^ n : Nat) : Int) := by
  rw [wrapu (by omega) (by omega), shl_one (by omega) (by omega), Int.toNat_natCast]
theorem pow_bd {n : Nat} (hn : n ≤ 10) : 1 ≤ 2 ^ n ∧ 2 ^ n ≤ 1024 := by
  have h1 : 2 ^ n ≤ 2 ^ 10 := Nat.pow_le_pow_right (by omega) hn
  have h2 := Nat.two_pow_pos n
  omega
theorem spec_great {l : List Int} {k m : Nat} (h : okS l = true) (hm : m < 2 ^ l.length) (hk : 30 < k) : spec_l1Great.f k l (maskList (m : Int)) = some (quor l (wOf l m)) := by
  have hl := okS_len h
  rw [spec_l1Great_f h (mask_in hl.2 hm) (maskList_len _) hk, wOf_list hl.2]
theorem wM_all (l : List Int) (m : Nat) (hm : m < 1024) (hb : ∀ i, i < l.length → m.testBit i = true) (hl : l.length ≤ 10) : ∀ d i, i + d = l.length → wM l m i d = sumL (l.drop i) := by
  intro d
  induction d with
  | zero => intro i hi; rw [List.drop_eq_nil_of_le (by omega)]; rfl
  | succ d ih =>
    intro i hi
    simp only [wM]
    rw [bitOn_eq hm (by omega), hb i (by omega), if_pos rfl, ih (i + 1) (by omega), drop_rd l i (by omega)]; rfl
theorem wOf_full {l : List Int} (h : okS l = true) : wOf l ((2 ^ l.length - 1 : Nat) : Int) = sumL l := by
  have hl := okS_len h
  have hp := pow_bd hl.2
  unfold wOf
  rw [wM_all l (2 ^ l.length - 1) (by omega) (fun i hi => by rw [Nat.testBit_two_pow_sub_one]; simpa using hi) hl.2 l.length 0 (by omega)]
  simp
theorem quor_full {l : List Int} (h : okS l = true) : quor l (wOf l ((2 ^ l.length - 1 : Nat) : Int)) = true := by
  have := okS_sum h
  rw [wOf_full h]; simp [quor]; omega
def inBoth (a b : List Int) : List Int × Bool := if rising a 0 9 && rising b 0 9 then (a.filter fun x => decide (x ∈ b), true) else ([], false)
theorem inBoth_len (a b : List Int) : (inBoth a b).1.length ≤ 10 := by
  unfold inBoth
  split
  · rename_i h
    rw [Bool.and_eq_true] at h
    have := rising_len h.1 (by omega)
    have h2 := List.length_filter_le (fun x => decide (x ∈ b)) a
    show (a.filter _).length ≤ 10
    omega
  · simp
theorem impl_InBoth_f {k : Nat} {a b : List Int} (ha : a.length ≤ 100000000) (hb : b.length ≤ 100000000) (hk : b.length + a.length + 50 < k) : impl_InBoth.f k a b = some (inBoth a b) := by
  obtain ⟨k, rfl⟩ : ∃ m, k = m + 1 := ⟨k - 1, by omega⟩
  unfold impl_InBoth.f inBoth
  simp (disch := omega) only [isGroup_f, Option.bind_some]
  by_cases h1 : rising a 0 9 = true
  · by_cases h2 : rising b 0 9 = true
    · have l1 := orAll_lt a (rising_bd h1) 0 (by omega)
      have l2 := orAll_lt b (rising_bd h2) 0 (by omega)
      have e := and_nat (a := orAll a 0) (b := orAll b 0) (by omega) (by omega)
      simp only [h1, h2, if_true, Bool.not_true, impl_InBoth.j0, Bool.false_eq_true, if_false, Bool.and_self]
      rw [maskOf_f (rising_bd h1) (by omega) (by omega), maskOf_f (rising_bd h2) (by omega) (by omega)]
      simp only [Option.bind_some]
      rw [e, ofMask_f (by omega), maskList_and h1 h2]
      rfl
    · simp [h1, h2, impl_InBoth.j0]
  · simp [h1, impl_InBoth.j0]
theorem u8_bd {l : List Int} (h : ∀ v ∈ l, (Lit.int .u8 v).wf = true) : ∀ v ∈ l, 0 ≤ v ∧ v ≤ 255 := by
  intro v hv
  have := h v hv
  simp [Lit.wf, IntKind.min, IntKind.max, IntKind.signed, IntKind.bits] at this
  omega
theorem wraps_u64 (n : Int) (h₀ : 0 ≤ n) (h₁ : n < 2 ^ 63) : IntKind.u64.wrap n = n := by
  simp [IntKind.wrap, IntKind.bits, IntKind.signed]; omega
theorem wrapu_nn (n : Int) : 0 ≤ IntKind.u64.wrap n ∧ IntKind.u64.wrap n < 2 ^ 64 := by
  simp [IntKind.wrap, IntKind.bits, IntKind.signed]; omega
theorem and255 {x : Int} (h0 : 0 ≤ x) (h1 : x < 2 ^ 63) : 0 ≤ Go.bits .and .u64 x 255 ∧ Go.bits .and .u64 x 255 ≤ 255 := by
  obtain ⟨a, rfl⟩ := Int.eq_ofNat_of_zero_le h0
  have ha : a < 2 ^ 63 := by exact_mod_cast h1
  have e := (bits_nat .u64 63 (by decide) wraps_u64 a 255 ha (by decide)).1
  rw [show ((255 : Nat) : Int) = 255 from rfl] at e
  rw [e]
  have : a &&& 255 ≤ 255 := Nat.and_le_right
  omega
theorem next_ex {l : List Int} (hl : ∀ v ∈ l, 0 ≤ v ∧ v ≤ 255) (hn : l.length ≤ 1000000000000000) (n s : Int) (h0 : 0 ≤ n) (h1 : n ≤ 1000000000000000) :
    ∃ b s', spec_l1Cur_next.f l n s = some (b, n + 1, s') ∧ 0 ≤ b ∧ b ≤ 255 := by
  have e : wrap64 (n + 1) = n + 1 := w64 (by omega) (by omega)
  have sm : ∀ q : Int, 0 ≤ wrap64 (Go.bits .and .u64 (IntKind.u64.wrap q / 1099511627776) 255) ∧ wrap64 (Go.bits .and .u64 (IntKind.u64.wrap q / 1099511627776) 255) ≤ 255 := by
    intro q
    have h2 := wrapu_nn q
    have h3 := and255 (x := IntKind.u64.wrap q / 1099511627776) (by omega) (by omega)
    rw [w64 (by omega) (by omega)]; exact h3
  unfold spec_l1Cur_next.f
  rw [e]
  by_cases h : n < (l.length : Int)
  · have hm := hl _ (rd_mem l n.toNat (by omega))
    rw [show ((n.toNat : Nat) : Int) = n by omega] at hm
    rw [if_pos h, if_pos h0, if_pos (by omega), w64 (n := rd l n) (by omega) (by omega)]
    exact ⟨_, _, rfl, hm.1, hm.2⟩
  · rw [if_neg h, if_neg (by omega)]
    exact ⟨_, _, rfl, (sm _).1, (sm _).2⟩
theorem pick_ex {l : List Int} (hl : ∀ v ∈ l, 0 ≤ v ∧ v ≤ 255) (hn : l.length ≤ 1000000000000000) (n s q : Int) (h0 : 0 ≤ n) (h1 : n ≤ 999999999999999) :
    ∃ b n' s', spec_l1Cur_pick.f l n s q = some (b, n', s') ∧ n ≤ n' ∧ n' ≤ n + 2 ∧ 0 ≤ b ∧ (b < q ∨ b = 0) := by
  unfold spec_l1Cur_pick.f
  by_cases h : q ≤ 1
  · rw [if_pos h]; exact ⟨_, _, _, rfl, by omega, by omega, by omega, .inr rfl⟩
  · obtain ⟨b, s1, e1, hb0, hb1⟩ := next_ex hl hn n s h0 (by omega)
    rw [if_neg h, e1]
    simp only [Option.bind_some]
    by_cases h2 : q > 200
    · obtain ⟨b2, s2, e2, hc0, hc1⟩ := next_ex hl hn (n + 1) s1 (by omega) (by omega)
      rw [if_pos h2, e2]
      simp only [Option.bind_some]
      rw [if_neg (by omega), w64 (n := b * 256) (by omega) (by omega), w64 (n := b * 256 + b2) (by omega) (by omega)]
      refine ⟨_, _, _, rfl, by omega, by omega, Int.tmod_nonneg _ (by omega), .inl (Int.tmod_lt_of_pos _ (by omega))⟩
    · rw [if_neg h2, if_neg (by omega)]
      exact ⟨_, _, _, rfl, by omega, by omega, Int.tmod_nonneg _ (by omega), .inl (Int.tmod_lt_of_pos _ (by omega))⟩
theorem among_ex {l : List Int} (hl : ∀ v ∈ l, 0 ≤ v ∧ v ≤ 255) (hn : l.length ≤ 1000000000000000) (n s : Int) (xs : List Int) (hx : 0 < xs.length) (h0 : 0 ≤ n) (h1 : n ≤ 999999999999999) :
    ∃ b n' s', spec_l1Cur_among.f l n s xs = some (b, n', s') ∧ n ≤ n' ∧ n' ≤ n + 2 ∧ b ∈ xs := by
  unfold spec_l1Cur_among.f
  obtain ⟨b, n1, s1, e1, h2, h3, h4, h5⟩ := pick_ex hl hn n s (xs.length : Int) h0 h1
  rw [e1]
  simp only [Option.bind_some]
  rw [if_pos h4, if_pos (by omega)]
  refine ⟨_, _, _, rfl, h2, h3, ?_⟩
  have := rd_mem xs b.toNat (by omega)
  rwa [show ((b.toNat : Nat) : Int) = b by omega] at this
theorem one_ex {l : List Int} (hl : ∀ v ∈ l, 0 ≤ v ∧ v ≤ 255) (hn : l.length ≤ 1000000000000000) (n s q : Int) (h0 : 0 ≤ n) (h1 : n ≤ 999999999999999) :
    ∃ b n' s', spec_l1Cur_one.f l n s q = some (b, n', s') ∧ n ≤ n' ∧ n' ≤ n + 2 := by
  obtain ⟨b, n1, s1, e1, h2, h3, _⟩ := pick_ex hl hn n s q h0 h1
  unfold spec_l1Cur_one.f
  rw [e1]
  exact ⟨_, _, _, rfl, h2, h3⟩
theorem stakes_l0 {l : List Int} (hl : ∀ v ∈ l, 0 ≤ v ∧ v ≤ 255) (hn : l.length ≤ 1000000000000000) : ∀ (d k : Nat) (acc : List Int) (n s : Int), acc.length + d ≤ 1000000 → d < k → 0 ≤ n → n + 2 * d + 10 ≤ 999999999999999 → ∃ st n' s', spec_l1Cur_stakes.l0 k acc (d : Int) l n s = some (st, n', s') ∧ n ≤ n' ∧ n' ≤ n + 2 * d + 4 ∧ st.length = acc.length + d := by
  intro d
  induction d with
  | zero =>
    intro k acc n s ha hk h0 h1
    obtain ⟨k, rfl⟩ := step_k hk
    simp only [spec_l1Cur_stakes.l0]
    rw [if_neg (by omega)]
    by_cases hc : (acc.length : Int) > 0
    · obtain ⟨b, n1, s1, e1, h2, h3⟩ := one_ex hl hn n s 20 h0 (by omega)
      rw [if_pos hc, e1]
      simp only [Option.bind_some]
      by_cases hb : b = true
      · obtain ⟨c, n2, s2, e2, h4, h5, _⟩ := among_ex hl hn n1 s1 [0, 1000, 1001] (by decide) (by omega) (by omega)
        rw [if_pos hb, e2]
        simp only [Option.bind_some]
        rw [if_pos hc]
        exact ⟨_, _, _, rfl, by omega, by omega, by simp⟩
      · rw [if_neg hb]
        exact ⟨_, _, _, rfl, by omega, by omega, by simp⟩
    · rw [if_neg hc]
      exact ⟨_, _, _, rfl, by omega, by omega, by simp⟩
  | succ d ih =>
    intro k acc n s ha hk h0 h1
    obtain ⟨k, rfl⟩ := step_k hk
    obtain ⟨b, n1, s1, e1, h2, h3, _⟩ := pick_ex hl hn n s 9 h0 (by omega)
    simp only [spec_l1Cur_stakes.l0]
    rw [if_pos (by omega), e1]
    simp only [Option.bind_some]
    rw [if_pos (by omega), w64 (n := ((d + 1 : Nat) : Int) - 1) (by omega) (by omega), show ((d + 1 : Nat) : Int) - 1 = (d : Int) by omega]
    obtain ⟨st, n2, s2, e2, h4, h5, h6⟩ := ih k (acc ++ [wrap64 (1 + b)]) n1 s1 (by simp; omega) (by omega) (by omega) (by omega)
    rw [e2]
    exact ⟨_, _, _, rfl, by omega, by omega, by rw [h6]; simp; omega⟩
theorem stakes_ex {l : List Int} (hl : ∀ v ∈ l, 0 ≤ v ∧ v ≤ 255) (hn : l.length ≤ 1000000000000000) (k : Nat) (n s : Int) (h0 : 0 ≤ n) (h1 : n ≤ 99999999999999) (hk : 50 < k) : ∃ st n' s', spec_l1Cur_stakes.f k l n s = some (st, n', s') ∧ n ≤ n' ∧ n' ≤ n + 100 ∧ st.length ≤ 11 := by
  obtain ⟨k, rfl⟩ : ∃ q, k = q + 1 := ⟨k - 1, by omega⟩
  obtain ⟨b, n1, s1, e1, h2, h3, h4, h5⟩ := pick_ex hl hn n s 6 h0 (by omega)
  obtain ⟨b2, n2, s2, e2, h6, h7⟩ := one_ex hl hn n1 s1 40 (by omega) (by omega)
  unfold spec_l1Cur_stakes.f
  rw [e1]
  simp only [Option.bind_some]
  rw [e2]
  simp only [Option.bind_some, spec_l1Cur_stakes.j0]
  have key : ∀ (x n : Int) (s : Int), 0 ≤ x → x ≤ 11 → 0 ≤ n → n ≤ 199999999999999 → ∃ st n' s', spec_l1Cur_stakes.l0 k ([] : List Int) x l n s = some (st, n', s') ∧ n ≤ n' ∧ n' ≤ n + 30 ∧ st.length ≤ 11 := by
    intro x n s hx hx2 hn0 hn1
    obtain ⟨st, n', s', e, h8, h9, h10⟩ := stakes_l0 hl hn x.toNat k [] n s (by simp; omega) (by omega) hn0 (by omega)
    rw [show ((x.toNat : Nat) : Int) = x by omega] at e
    exact ⟨st, n', s', e, h8, by omega, by simp at h10; omega⟩
  by_cases hb : b2 = true
  · obtain ⟨c, n3, s3, e3, h8, h9, h10⟩ := among_ex hl hn n2 s2 [0, 10, 11] (by decide) (by omega) (by omega)
    rw [if_pos hb, e3]
    simp only [Option.bind_some]
    have hc : 0 ≤ c ∧ c ≤ 11 := by simp at h10; omega
    obtain ⟨st, n', s', e, h11, h12, h13⟩ := key c n3 s3 hc.1 hc.2 (by omega) (by omega)
    exact ⟨st, n', s', e, by omega, by omega, h13⟩
  · rw [if_neg hb, w64 (n := 1 + b) (by omega) (by omega)]
    obtain ⟨st, n', s', e, h11, h12, h13⟩ := key (1 + b) n2 s2 (by omega) (by omega) (by omega) (by omega)
    exact ⟨st, n', s', e, by omega, by omega, h13⟩
theorem group_l0 {l : List Int} (hl : ∀ v ∈ l, 0 ≤ v ∧ v ≤ 255) (hn : l.length ≤ 1000000000000000) (a : Int) : ∀ (d k : Nat) (acc : List Int) (i : Nat) (n s : Int), (i : Int) + d = a → i ≤ 1000000 → acc.length ≤ i → a ≤ 1000000 → d < k → 0 ≤ n → n + 2 * d + 10 ≤ 999999999999999 → ∃ g n' s', spec_l1Cur_group.l0 k a acc (i : Int) l n s = some (g, n', s') ∧ n ≤ n' ∧ n' ≤ n + 2 * d ∧ (g.length : Int) ≤ a := by
  intro d
  induction d with
  | zero =>
    intro k acc i n s hi hi2 ha ha2 hk h0 h1
    obtain ⟨k, rfl⟩ := step_k hk
    simp only [spec_l1Cur_group.l0]
    rw [if_neg (by omega)]
    exact ⟨_, _, _, rfl, by omega, by omega, by omega⟩
  | succ d ih =>
    intro k acc i n s hi hi2 ha ha2 hk h0 h1
    obtain ⟨k, rfl⟩ := step_k hk
    obtain ⟨b, n1, s1, e1, h2, h3⟩ := one_ex hl hn n s 3 h0 (by omega)
    simp only [spec_l1Cur_group.l0]
    rw [if_pos (by omega), e1, w64s (by omega)]
    simp only [Option.bind_some]
    by_cases hb : b = true
    · rw [if_pos hb]
      obtain ⟨g, n2, s2, e2, h4, h5, h6⟩ := ih k acc (i + 1) n1 s1 (by omega) (by omega) (by omega) ha2 (by omega) (by omega) (by omega)
      exact ⟨g, n2, s2, e2, by omega, by omega, h6⟩
    · rw [if_neg hb, if_pos (by omega)]
      obtain ⟨g, n2, s2, e2, h4, h5, h6⟩ := ih k (acc ++ [(i : Int)]) (i + 1) n1 s1 (by omega) (by omega) (by simp; omega) ha2 (by omega) (by omega) (by omega)
      exact ⟨g, n2, s2, e2, by omega, by omega, h6⟩
theorem group_ex {l : List Int} (hl : ∀ v ∈ l, 0 ≤ v ∧ v ≤ 255) (hn : l.length ≤ 1000000000000000) (k : Nat) (n s a : Int) (h0 : 0 ≤ n) (h1 : n ≤ 99999999999999) (ha : 0 ≤ a ∧ a ≤ 40) (hk : 50 < k) : ∃ g n' s', spec_l1Cur_group.f k l n s a = some (g, n', s') ∧ n ≤ n' ∧ n' ≤ n + 100 ∧ g.length ≤ 40 := by
  unfold spec_l1Cur_group.f
  obtain ⟨g, n', s', e, h2, h3, h4⟩ := group_l0 hl hn a a.toNat k [] 0 n s (by omega) (by omega) (by simp) (by omega) (by omega) h0 (by omega)
  exact ⟨g, n', s', e, h2, by omega, by omega⟩
theorem sameInts_l0 (l : List Int) (hn : l.length ≤ 100000000000000) (d : Nat) : ∀ (k i : Nat), i + d = l.length → d < k → laws_sameInts.l0 k l l (l.length : Int) i = some true := by
  induction d with
  | zero =>
    intro k i hi hk
    obtain ⟨k, rfl⟩ := step_k hk
    simp only [laws_sameInts.l0]; rw [if_neg (by omega)]
  | succ d ih =>
    intro k i hi hk
    obtain ⟨k, rfl⟩ := step_k hk
    simp only [laws_sameInts.l0]
    rw [if_pos (by omega), if_pos (by omega), if_pos (by omega), if_pos (by omega), if_true, w64s (by omega)]
    exact ih k (i + 1) (by omega) (by omega)
theorem sameInts_f {k : Nat} {l : List Int} (hn : l.length ≤ 100000000000000) (hk : l.length < k) : laws_sameInts.f k l l = some true := by
  unfold laws_sameInts.f
  rw [if_pos rfl]
  exact sameInts_l0 l hn l.length k 0 (by omega) hk
theorem numberOf_l0 (l : List Int) (hl : ∀ v ∈ l, 0 ≤ v ∧ v ≤ 255) (hn : l.length ≤ 100000000000000) (d : Nat) : ∀ (k i : Nat) (x : Int), 0 ≤ x → x < 1000003 → i + d = l.length → d < k → ∃ y, laws_numberOf.l0 k x l (l.length : Int) i = some y ∧ 0 ≤ y ∧ y < 1000003 := by
  induction d with
  | zero =>
    intro k i x h0 h1 hi hk
    obtain ⟨k, rfl⟩ := step_k hk
    simp only [laws_numberOf.l0]; rw [if_neg (by omega)]
    exact ⟨x, rfl, h0, h1⟩
  | succ d ih =>
    intro k i x h0 h1 hi hk
    obtain ⟨k, rfl⟩ := step_k hk
    have hx := hl _ (rd_mem l i (by omega))
    simp only [laws_numberOf.l0]
    rw [if_pos (by omega), if_pos (by omega), if_pos (by omega), w64s (by omega), w64 (n := rd l i) (by omega) (by omega), w64 (n := 31 * x) (by omega) (by omega), w64 (n := 31 * x + rd l i) (by omega) (by omega)]
    exact ih k (i + 1) _ (Int.tmod_nonneg _ (by omega)) (Int.tmod_lt_of_pos _ (by omega)) (by omega) (by omega)
theorem numberOf_ex {k : Nat} {l : List Int} (hl : ∀ v ∈ l, 0 ≤ v ∧ v ≤ 255) (hn : l.length ≤ 100000000000000) (hk : l.length < k) : ∃ y, laws_numberOf.f k l = some y ∧ 0 ≤ y ∧ y < 1000003 := by
  unfold laws_numberOf.f
  exact numberOf_l0 l hl hn l.length k 0 0 (by omega) (by omega) (by omega) hk
theorem rising_of {w : List Int} (hs : w.Pairwise (· < ·)) {a b : Int} (hb : ∀ x ∈ w, a ≤ x ∧ x ≤ b) : rising w a b = true := by
  refine (rising_iff w a b).2 fun j hj => ⟨hb _ (rd_mem w j hj), fun hp => ?_⟩
  rw [rd_getElem w (j - 1) (by omega), rd_getElem w j hj]
  exact List.pairwise_iff_getElem.1 hs (j - 1) j (by omega) hj (by omega)
theorem rising_mask {m : Nat} (hm : m < 1024) : rising (maskList (m : Int)) 0 9 = true :=
  rising_of (maskList_sorted hm) fun x hx => by have := (maskList_mem hm x).1 hx; omega
theorem group_mask {l : List Int} {m : Nat} (h : okS l = true) (hm : m < 2 ^ l.length) : groupOk l (maskList (m : Int)) = true := by
  have hl := okS_len h
  unfold groupOk
  rw [h, Bool.true_and]
  exact rising_of (maskList_sorted (sub_lt hl.2 hm)) fun x hx => by have := mask_in hl.2 hm x hx; omega
theorem great_mask {l : List Int} {m : Nat} (h : okS l = true) (hm : m < 2 ^ l.length) : greatRes l (maskList (m : Int)) = (quor l (wOf l m), true) := by
  unfold greatRes
  rw [group_mask h hm, wOf_list (okS_len h).2]; rfl
theorem shl_full' {n : Nat} (hn : n ≤ 10) {t : Int} (h0 : 0 ≤ t) : ∃ m : Nat, Int.tmod t (shl .i64 1 (IntKind.u64.wrap (n : Int))) = m ∧ m < 2 ^ n := by
  have hp := pow_bd hn
  rw [shl_full hn, Int.tmod_eq_emod_of_nonneg h0]
  have h1 := Int.emod_nonneg t (b := ((2 ^ n : Nat) : Int)) (by omega)
  have h2 := Int.emod_lt_of_pos t (b := ((2 ^ n : Nat) : Int)) (by omega)
  exact ⟨(t % ((2 ^ n : Nat) : Int)).toNat, by omega, by omega⟩
theorem OfMask_m {k m : Nat} (hm : m < 1024) (hk : 20 < k) : impl_OfMask.f k (m : Int) = some (maskList (m : Int), true) := by
  unfold impl_OfMask.f
  rw [within_f]
  simp only [Option.bind_some]
  rw [inn_t.2 (by omega), if_pos rfl, ofMask_f (by omega)]; rfl
theorem wM_pair {l : List Int} (h : okS l = true) {a b : Nat} (ha : a < 1024) (hb : b < 1024) : ∀ d i, i + d = l.length → wM l (a : Int) i d + wM l (b : Int) i d ≤ wM l ((a &&& b : Nat) : Int) i d + sumL (l.drop i) := by
  have hl := okS_len h
  have hab : a &&& b < 1024 := Nat.lt_of_le_of_lt Nat.and_le_left ha
  intro d
  induction d with
  | zero => intro i hi; rw [List.drop_eq_nil_of_le (by omega)]; simp [wM, sumL]
  | succ d ih =>
    intro i hi
    have h1 := ih (i + 1) (by omega)
    have h2 := okS_bd h _ (rd_mem l i (by omega))
    rw [drop_rd l i (by omega)]
    simp only [wM, sumL]
    rw [bitOn_eq ha (by omega), bitOn_eq hb (by omega), bitOn_eq hab (by omega), Nat.testBit_and]
    cases a.testBit i <;> cases b.testBit i <;> simp <;> omega
theorem quor_pair {l : List Int} (h : okS l = true) {a b : Nat} (ha : a < 1024) (hb : b < 1024) (hqa : quor l (wOf l (a : Int)) = true) (hqb : quor l (wOf l (b : Int)) = true) : sumL l ≤ 3 * wOf l ((a &&& b : Nat) : Int) := by
  have := wM_pair h ha hb l.length 0 (by omega)
  rw [List.drop_zero] at this
  simp only [quor, decide_eq_true_eq] at hqa hqb
  unfold wOf at *
  omega
def MinOf (l : List Int) (r : Int) (P : Nat → Prop) : Prop := r ≤ sumL l ∧ (∀ c, P c → r ≤ wOf l (c : Int)) ∧ (r = sumL l ∨ ∃ c, P c ∧ r = wOf l (c : Int))
theorem MinOf.uniq {l : List Int} {r r' : Int} {P : Nat → Prop} (h : MinOf l r P) (h' : MinOf l r' P) : r = r' := by
  obtain ⟨h1, h2, h3⟩ := h
  obtain ⟨g1, g2, g3⟩ := h'
  apply Int.le_antisymm
  · rcases g3 with e | ⟨c, hc, e⟩
    · omega
    · have := h2 c hc; omega
  · rcases h3 with e | ⟨c, hc, e⟩
    · omega
    · have := g2 c hc; omega
theorem MinOf.congr {l : List Int} {r : Int} {P Q : Nat → Prop} (h : MinOf l r P) (e : ∀ c, P c ↔ Q c) : MinOf l r Q := by
  obtain ⟨h1, h2, h3⟩ := h
  exact ⟨h1, fun c hc => h2 c ((e c).2 hc), h3.imp id fun ⟨c, hc, h⟩ => ⟨c, (e c).1 hc, h⟩⟩
theorem MinOf.add {l : List Int} {r : Int} {P : Nat → Prop} (h : MinOf l r P) (m : Nat) : MinOf l (mn r (wOf l (m : Int))) (fun c => P c ∨ c = m) := by
  obtain ⟨h1, h2, h3⟩ := h
  by_cases hlt : wOf l (m : Int) < r
  · have e : mn r (wOf l (m : Int)) = wOf l m := by unfold mn; split <;> omega
    rw [e]
    refine ⟨by omega, ?_, .inr ⟨m, .inr rfl, rfl⟩⟩
    rintro c (hc | rfl)
    · have := h2 c hc; omega
    · omega
  · have e : mn r (wOf l (m : Int)) = r := by unfold mn; split <;> omega
    rw [e]
    refine ⟨h1, ?_, h3.imp id fun ⟨c, hc, h⟩ => ⟨c, .inl hc, h⟩⟩
    rintro c (hc | rfl)
    · exact h2 c hc
    · omega
/-- The quorums below m. -/
def isQ (l : List Int) (a : Nat) : Prop := a < 2 ^ l.length ∧ quor l (wOf l (a : Int)) = true
theorem wM_mono {l : List Int} (h : okS l = true) {a b : Nat} (ha : a < 1024) (hb : b < 1024) (hab : ∀ i, a.testBit i = true → b.testBit i = true) : ∀ d i, i + d ≤ l.length → wM l (a : Int) i d ≤ wM l (b : Int) i d := by
  have hl := okS_len h
  intro d
  induction d with
  | zero => intro i _; simp [wM]
  | succ d ih =>
    intro i hi
    have h1 := ih (i + 1) (by omega)
    have h2 := okS_bd h _ (rd_mem l i (by omega))
    simp only [wM]
    rw [bitOn_eq ha (by omega), bitOn_eq hb (by omega)]
    by_cases e : a.testBit i = true
    · rw [if_pos e, if_pos (hab i e)]; omega
    · rw [if_neg e]; split <;> omega
theorem quor_mono {l : List Int} (h : okS l = true) {a b : Nat} (ha : a < 1024) (hb : b < 1024) (hab : ∀ i, a.testBit i = true → b.testBit i = true) (hq : quor l (wOf l (a : Int)) = true) : quor l (wOf l (b : Int)) = true := by
  have := wM_mono h ha hb hab l.length 0 (by omega)
  simp only [quor, decide_eq_true_eq] at hq ⊢
  unfold wOf at hq ⊢
  omega
/-- What the inner loop of the reference takes in: the parts c of a, from b down. -/
def subOf (c a : Nat) : Prop := ∀ i, c.testBit i = true → a.testBit i = true
theorem subOf_le {c a : Nat} (h : subOf c a) : c ≤ a := Nat.le_of_testBit h
theorem subOf_refl (a : Nat) : subOf a a := fun _ h => h
theorem subOf_half {c a : Nat} (h : subOf c a) : subOf (c / 2) (a / 2) := by
  intro i hi
  rw [Nat.testBit_div_two] at hi ⊢
  exact h _ hi
theorem subOf_and {b a : Nat} (h : subOf b a) : b &&& a = b := by
  apply Nat.eq_of_testBit_eq
  intro i
  rw [Nat.testBit_and]
  by_cases e : b.testBit i = true
  · rw [e, h i e]; rfl
  · rw [Bool.eq_false_iff.2 e]; rfl
theorem sub_step : ∀ a b c : Nat, subOf c a → subOf b a → c < b → c ≤ (b - 1) &&& a := by
  intro a
  induction a using Nat.strongRecOn with
  | _ a ih =>
    intro b c hc hb hcb
    have hba := subOf_le hb
    have h1 := Nat.and_div_two (a := b - 1) (b := a)
    have h2 := Nat.and_mod_two_eq_one (a := b - 1) (b := a)
    have hc0 : c % 2 = 1 → a % 2 = 1 := fun h => Nat.mod_two_eq_one_iff_testBit_zero.2 (hc 0 (Nat.mod_two_eq_one_iff_testBit_zero.1 h))
    by_cases e : b % 2 = 1
    · have h3 : (b - 1) / 2 = b / 2 := by omega
      rw [h3, subOf_and (subOf_half hb)] at h1
      omega
    · have h3 : (b - 1) / 2 = b / 2 - 1 := by omega
      have h4 := ih (a / 2) (by omega) (b / 2) (c / 2) (subOf_half hc) (subOf_half hb) (by omega)
      rw [h3] at h1
      have h5 : (b - 1) % 2 = 1 := by omega
      omega
theorem rest_bit {n a : Nat} (h : a < 2 ^ n) (i : Nat) : (2 ^ n - 1 - a).testBit i = (decide (i < n) && !a.testBit i) := by
  rw [show 2 ^ n - 1 - a = 2 ^ n - (a + 1) by omega]
  exact Nat.testBit_two_pow_sub_succ h i
def D (l : List Int) (a c : Nat) : Prop := subOf c a ∧ quor l (wOf l ((c ||| (2 ^ l.length - 1 - a) : Nat) : Int)) = true
def PS (l : List Int) (a c : Nat) : Prop := ∃ a', a' < a ∧ isQ l a' ∧ D l a' c
def PI (l : List Int) (m c : Nat) : Prop := ∃ a b, a < m ∧ b ≤ a ∧ isQ l a ∧ isQ l b ∧ c = a &&& b
theorem PS_PI {l : List Int} (h : okS l = true) (c : Nat) : PS l (2 ^ l.length) c ↔ PI l (2 ^ l.length) c := by
  have hl := okS_len h
  have hp := pow_bd hl.2
  constructor
  · rintro ⟨a, ha, hq, hs, hd⟩
    have hc := subOf_le hs
    have hr : 2 ^ l.length - 1 - a < 2 ^ l.length := by omega
    have hq2 : isQ l (c ||| (2 ^ l.length - 1 - a)) := ⟨Nat.or_lt_two_pow (by omega) hr, hd⟩
    have e : c = a &&& (c ||| (2 ^ l.length - 1 - a)) := by
      apply Nat.eq_of_testBit_eq
      intro i
      rw [Nat.testBit_and, Nat.testBit_or, rest_bit ha]
      by_cases e1 : c.testBit i = true
      · rw [e1, hs i e1]; rfl
      · rw [Bool.eq_false_iff.2 e1]; cases a.testBit i <;> simp
    by_cases hle : c ||| (2 ^ l.length - 1 - a) ≤ a
    · exact ⟨a, _, ha, hle, hq, hq2, e⟩
    · exact ⟨_, a, hq2.1, by omega, hq2, hq, by rw [Nat.and_comm]; exact e⟩
  · rintro ⟨a, b, ha, hb, hqa, hqb, rfl⟩
    refine ⟨a, ha, hqa, fun i hi => ?_, ?_⟩
    · rw [Nat.testBit_and, Bool.and_eq_true] at hi; exact hi.1
    · have hr : 2 ^ l.length - 1 - a < 2 ^ l.length := by omega
      have hlt : (a &&& b) ||| (2 ^ l.length - 1 - a) < 2 ^ l.length := Nat.or_lt_two_pow (Nat.lt_of_le_of_lt Nat.and_le_left ha) hr
      refine quor_mono h (a := b) (by have := hqb.1; omega) (by omega) ?_ hqb.2
      intro i hi
      rw [Nat.testBit_or, Nat.testBit_and, rest_bit ha, hi]
      have hin : i < l.length := by
        by_cases e : i < l.length
        · exact e
        · have h2 : 2 ^ l.length ≤ 2 ^ i := Nat.pow_le_pow_right (by omega) (by omega)
          rw [Nat.testBit_lt_two_pow (Nat.lt_of_lt_of_le hqb.1 h2)] at hi
          exact absurd hi (by simp)
      rw [decide_eq_true hin]
      cases a.testBit i <;> rfl
theorem Least_f (a b : Int) : spec_l1Least.f a b = some (mn a b) := by
  unfold spec_l1Least.f mn
  by_cases h : a < b
  · rw [if_pos h, if_neg (by omega)]
  · rw [if_neg h]
    by_cases h2 : b < a
    · rw [if_pos h2]
    · rw [if_neg h2]; congr 1; omega
theorem weight_mask {l : List Int} {k m : Nat} (h : okS l = true) (hm : m < 2 ^ l.length) (hk : 30 < k) : spec_l1Weight.f k l (maskList (m : Int)) = some (wOf l m) := by
  have hl := okS_len h
  have := maskList_len (m : Int)
  rw [l1Weight_f h (mask_in hl.2 hm) (by omega) (by omega), wOf_list hl.2]
theorem LS_l1 {l : List Int} (h : okS l = true) {a : Nat} (ha : a < 2 ^ l.length) (P : Nat → Prop) : ∀ (b k : Nat) (r : Int), b + 60 < k → subOf b a → MinOf l r (fun c => P c ∨ (D l a c ∧ b < c)) → ∃ r' k', k ≤ k' + b + 1 ∧ spec_LeastShared.l1 k l r (a : Int) (b : Int) = spec_LeastShared.l0 k' l r' ((a + 1 : Nat) : Int) ∧ MinOf l r' (fun c => P c ∨ D l a c) := by
  have hl := okS_len h
  have hp := pow_bd hl.2
  intro b
  induction b using Nat.strongRecOn with
  | _ b ih =>
    intro k r hk hb hr
    obtain ⟨k, rfl⟩ : ∃ q, k = q + 1 := ⟨k - 1, by omega⟩
    have hba := subOf_le hb
    have hrest : 2 ^ l.length - 1 - a < 2 ^ l.length := by omega
    have hor : b ||| (2 ^ l.length - 1 - a) < 2 ^ l.length := Nat.or_lt_two_pow (by omega) hrest
    have eor : Go.bits .or .i64 (b : Int) (wrap64 ((wrap64 ((shl .i64 1 (IntKind.u64.wrap ((l.length : Nat) : Int))) - 1)) - (a : Int))) = ((b ||| (2 ^ l.length - 1 - a) : Nat) : Int) := by
      rw [shl_full hl.2, w64 (n := ((2 ^ l.length : Nat) : Int) - 1) (by omega) (by omega), w64 (n := ((2 ^ l.length : Nat) : Int) - 1 - (a : Int)) (by omega) (by omega), show ((2 ^ l.length : Nat) : Int) - 1 - (a : Int) = ((2 ^ l.length - 1 - a : Nat) : Int) by omega]
      exact or_nat (by omega) (by omega)
    simp only [spec_LeastShared.l1]
    rw [eor, wrapu (by omega) (by omega), if_pos (by omega), l1Mask_f (by omega), w64s (by omega)]
    simp only [Option.bind_some]
    rw [spec_great h hor (by omega)]
    simp only [Option.bind_some]
    have eand : 0 < b → Go.bits .and .i64 (wrap64 ((b : Int) - 1)) (a : Int) = (((b - 1) &&& a : Nat) : Int) := by
      intro hb0
      rw [w64 (n := (b : Int) - 1) (by omega) (by omega), show (b : Int) - 1 = ((b - 1 : Nat) : Int) by omega]
      exact and_nat (by omega) (by omega)
    have hnext : 0 < b → (b - 1) &&& a < b := fun hb0 => Nat.lt_of_le_of_lt Nat.and_le_left (by omega)
    have hnsub : subOf ((b - 1) &&& a) a := fun i hi => by rw [Nat.testBit_and, Bool.and_eq_true] at hi; exact hi.2
    by_cases hq : quor l (wOf l ((b ||| (2 ^ l.length - 1 - a) : Nat) : Int)) = true
    · have hD : D l a b := ⟨hb, hq⟩
      have hr2 := hr.add b
      rw [if_pos hq, l1Mask_f (by omega)]
      simp only [Option.bind_some]
      rw [weight_mask h (by omega) (by omega)]
      simp only [Option.bind_some, Least_f]
      by_cases hb0 : b = 0
      · rw [if_pos (by omega)]
        refine ⟨_, k, by omega, rfl, hr2.congr fun c => ?_⟩
        constructor
        · rintro ((h1 | h1) | h1)
          · exact .inl h1
          · exact .inr h1.1
          · subst h1; exact .inr hD
        · rintro (h1 | h1)
          · exact .inl (.inl h1)
          · by_cases e : c = b
            · exact .inr e
            · exact .inl (.inr ⟨h1, by omega⟩)
      · rw [if_neg (by omega), eand (by omega)]
        have hlt := hnext (by omega)
        obtain ⟨r', k', h1, h2, h3⟩ := ih _ hlt k _ (by omega) hnsub (hr2.congr (Q := fun c => P c ∨ (D l a c ∧ (b - 1) &&& a < c)) fun c => by
          constructor
          · rintro ((h1 | h1) | h1)
            · exact .inl h1
            · exact .inr ⟨h1.1, by omega⟩
            · subst h1; exact .inr ⟨hD, hlt⟩
          · rintro (h1 | h1)
            · exact .inl (.inl h1)
            · by_cases e : c = b
              · exact .inr e
              · refine .inl (.inr ⟨h1.1, ?_⟩)
                by_cases e2 : c < b
                · have := sub_step a b c h1.1.1 hb e2; omega
                · omega)
        exact ⟨r', k', by omega, h2, h3⟩
    · rw [if_neg hq]
      by_cases hb0 : b = 0
      · rw [if_pos (by omega)]
        refine ⟨_, k, by omega, rfl, hr.congr fun c => ?_⟩
        constructor
        · rintro (h1 | h1)
          · exact .inl h1
          · exact .inr h1.1
        · rintro (h1 | h1)
          · exact .inl h1
          · by_cases e : c = b
            · subst e; exact absurd h1.2 hq
            · exact .inr ⟨h1, by omega⟩
      · rw [if_neg (by omega), eand (by omega)]
        have hlt := hnext (by omega)
        obtain ⟨r', k', h1, h2, h3⟩ := ih _ hlt k _ (by omega) hnsub (hr.congr (Q := fun c => P c ∨ (D l a c ∧ (b - 1) &&& a < c)) fun c => by
          constructor
          · rintro (h1 | h1)
            · exact .inl h1
            · exact .inr ⟨h1.1, by omega⟩
          · rintro (h1 | h1)
            · exact .inl h1
            · by_cases e : c = b
              · subst e; exact absurd h1.1.2 hq
              · refine .inr ⟨h1.1, ?_⟩
                by_cases e2 : c < b
                · have := sub_step a b c h1.1.1 hb e2; omega
                · omega)
        exact ⟨r', k', by omega, h2, h3⟩
theorem LS_l0 {l : List Int} (h : okS l = true) : ∀ (d k a : Nat) (r : Int), a + d = 2 ^ l.length → (d : Int) * 1100 + 100 < k → MinOf l r (PS l a) → ∃ r', spec_LeastShared.l0 k l r (a : Int) = some (r', true) ∧ MinOf l r' (PS l (2 ^ l.length)) := by
  have hl := okS_len h
  have hp := pow_bd hl.2
  intro d
  induction d with
  | zero =>
    intro k a r ha hk hr
    obtain ⟨k, rfl⟩ : ∃ q, k = q + 1 := ⟨k - 1, by omega⟩
    simp only [spec_LeastShared.l0]
    rw [shl_full hl.2, wrapu (by omega) (by omega), if_pos (by omega), if_neg (by omega)]
    refine ⟨r, rfl, ?_⟩
    rw [show 2 ^ l.length = a by omega]; exact hr
  | succ d ih =>
    intro k a r ha hk hr
    obtain ⟨k, rfl⟩ : ∃ q, k = q + 1 := ⟨k - 1, by omega⟩
    simp only [spec_LeastShared.l0]
    rw [shl_full hl.2, wrapu (by omega) (by omega), if_pos (by omega), if_pos (by omega), l1Mask_f (by omega), w64s (by omega)]
    simp only [Option.bind_some]
    rw [spec_great h (by omega) (by omega)]
    simp only [Option.bind_some]
    by_cases hq : quor l (wOf l (a : Int)) = true
    · rw [if_pos hq]
      have hQ : isQ l a := ⟨by omega, hq⟩
      obtain ⟨r', k', h1, h2, h3⟩ := LS_l1 h (a := a) (by omega) (PS l a) a k r (by omega) (subOf_refl a) (hr.congr fun c => by
        constructor
        · intro h1; exact .inl h1
        · rintro (h1 | h1)
          · exact h1
          · have := subOf_le h1.1.1; omega)
      rw [h2]
      refine ih k' (a + 1) r' (by omega) (by omega) (h3.congr fun c => ?_)
      constructor
      · rintro (⟨a', h4, h5, h6⟩ | h1)
        · exact ⟨a', by omega, h5, h6⟩
        · exact ⟨a, by omega, hQ, h1⟩
      · rintro ⟨a', h4, h5, h6⟩
        by_cases e : a' = a
        · subst e; exact .inr h6
        · exact .inl ⟨a', by omega, h5, h6⟩
    · rw [if_neg hq]
      refine ih k (a + 1) r (by omega) (by omega) (hr.congr fun c => ?_)
      constructor
      · rintro ⟨a', h4, h5, h6⟩
        exact ⟨a', by omega, h5, h6⟩
      · rintro ⟨a', h4, h5, h6⟩
        by_cases e : a' = a
        · subst e; exact absurd h5.2 hq
        · exact ⟨a', by omega, h5, h6⟩
theorem LI_l1 {l : List Int} (h : okS l = true) {m : Nat} (hm : m < 1024) (P : Nat → Prop) (N : Int) (y : List Int) (hy : ∀ x ∈ y, 0 ≤ x ∧ x < 1024) (hn : y.length ≤ 1024) : ∀ (d k i : Nat) (r : Int), i + d = y.length → d + 60 < k → MinOf l r (fun c => P c ∨ ∃ j : Nat, j < i ∧ c = m &&& (rd y (j : Int)).toNat) → ∃ r' k', k ≤ k' + d + 1 ∧ impl_LeastShared.l1 k l r y (m : Int) N (m : Int) y (y.length : Int) (i : Int) = impl_LeastShared.l0 k' l r' y N ((m + 1 : Nat) : Int) ∧ MinOf l r' (fun c => P c ∨ ∃ j : Nat, j < y.length ∧ c = m &&& (rd y (j : Int)).toNat) := by
  intro d
  induction d with
  | zero =>
    intro k i r hi hk hr
    obtain ⟨k, rfl⟩ : ∃ q, k = q + 1 := ⟨k - 1, by omega⟩
    simp only [impl_LeastShared.l1]
    rw [if_neg (by omega), w64s (by omega)]
    refine ⟨r, k, by omega, rfl, ?_⟩
    rw [show y.length = i by omega]; exact hr
  | succ d ih =>
    intro k i r hi hk hr
    obtain ⟨k, rfl⟩ : ∃ q, k = q + 1 := ⟨k - 1, by omega⟩
    have hx := hy _ (rd_mem y i (by omega))
    have eand : Go.bits .and .i64 (m : Int) (rd y (i : Int)) = ((m &&& (rd y (i : Int)).toNat : Nat) : Int) := by
      have := and_nat (a := m) (b := (rd y (i : Int)).toNat) (by omega) (by omega)
      rw [show (((rd y (i : Int)).toNat : Nat) : Int) = rd y (i : Int) by omega] at this
      exact this
    simp only [impl_LeastShared.l1]
    rw [if_pos (by omega), if_pos (by omega), if_pos (by omega), eand, weightOf_f h (by omega), w64s (i := i) (by omega)]
    simp only [Option.bind_some]
    obtain ⟨r', k', h1, h2, h3⟩ := ih k (i + 1) _ (by omega) (by omega) ((hr.add (m &&& (rd y (i : Int)).toNat)).congr (Q := fun c => P c ∨ ∃ j : Nat, j < i + 1 ∧ c = m &&& (rd y (j : Int)).toNat) fun c => by
      constructor
      · rintro ((h1 | ⟨j, h1, h2⟩) | h1)
        · exact .inl h1
        · exact .inr ⟨j, by omega, h2⟩
        · exact .inr ⟨i, by omega, h1⟩
      · rintro (h1 | ⟨j, h1, h2⟩)
        · exact .inl (.inl h1)
        · by_cases e : j = i
          · subst e; exact .inr h2
          · exact .inl (.inr ⟨j, by omega, h2⟩))
    exact ⟨r', k', by omega, h2, h3⟩
theorem LI_l0 {l : List Int} (h : okS l = true) : ∀ (d k m : Nat) (r : Int) (qs : List Int), m + d = 2 ^ l.length → (d : Int) * 1100 + 100 < k → qs.length ≤ m → (∀ x, x ∈ qs ↔ ∃ a : Nat, x = a ∧ a < m ∧ isQ l a) → MinOf l r (PI l m) → ∃ r', impl_LeastShared.l0 k l r qs ((2 ^ l.length : Nat) : Int) (m : Int) = some (r', true) ∧ MinOf l r' (PI l (2 ^ l.length)) := by
  have hl := okS_len h
  have hp := pow_bd hl.2
  intro d
  induction d with
  | zero =>
    intro k m r qs hm hk hqs hmem hr
    obtain ⟨k, rfl⟩ : ∃ q, k = q + 1 := ⟨k - 1, by omega⟩
    simp only [impl_LeastShared.l0]
    rw [if_neg (by omega)]
    refine ⟨r, rfl, ?_⟩
    rw [show 2 ^ l.length = m by omega]; exact hr
  | succ d ih =>
    intro k m r qs hm hk hqs hmem hr
    obtain ⟨k, rfl⟩ : ∃ q, k = q + 1 := ⟨k - 1, by omega⟩
    simp only [impl_LeastShared.l0]
    rw [if_pos (by omega), isQuorum_f h (by omega), w64s (by omega)]
    simp only [Option.bind_some]
    by_cases hq : quor l (wOf l (m : Int)) = true
    · have hQ : isQ l m := ⟨by omega, hq⟩
      rw [if_pos hq, if_pos (by omega)]
      have hmem' : ∀ x, x ∈ qs ++ [(m : Int)] ↔ ∃ a : Nat, x = a ∧ a < m + 1 ∧ isQ l a := by
        intro x
        rw [List.mem_append, List.mem_singleton, hmem x]
        constructor
        · rintro (⟨a, h1, h2, h3⟩ | h1)
          · exact ⟨a, h1, by omega, h3⟩
          · exact ⟨m, h1, by omega, hQ⟩
        · rintro ⟨a, h1, h2, h3⟩
          by_cases e : a = m
          · subst e; exact .inr h1
          · exact .inl ⟨a, h1, by omega, h3⟩
      have hlen : (qs ++ [(m : Int)]).length ≤ m + 1 := by simp; omega
      have hbd : ∀ x ∈ qs ++ [(m : Int)], 0 ≤ x ∧ x < 1024 := by
        intro x hx
        obtain ⟨a, h1, h2, _⟩ := (hmem' x).1 hx
        omega
      obtain ⟨r', k', h1, h2, h3⟩ := LI_l1 h (m := m) (by omega) (PI l m) ((2 ^ l.length : Nat) : Int) (qs ++ [(m : Int)]) hbd (by omega) (qs ++ [(m : Int)]).length k 0 r (by omega) (by omega) (hr.congr fun c => by
        constructor
        · intro h1; exact .inl h1
        · rintro (h1 | ⟨j, h1, _⟩)
          · exact h1
          · omega)
      rw [show ((0 : Nat) : Int) = 0 from rfl] at h2
      rw [h2]
      refine ih k' (m + 1) r' _ (by omega) (by omega) hlen hmem' (h3.congr fun c => ?_)
      constructor
      · rintro (⟨a, b, h4, h5, h6, h7, h8⟩ | ⟨j, h4, h5⟩)
        · exact ⟨a, b, by omega, h5, h6, h7, h8⟩
        · obtain ⟨b, h6, h7, h8⟩ := (hmem' _).1 (rd_mem (qs ++ [(m : Int)]) j h4)
          refine ⟨m, b, by omega, by omega, hQ, h8, ?_⟩
          rw [h5, h6, Int.toNat_natCast]
      · rintro ⟨a, b, h4, h5, h6, h7, h8⟩
        by_cases e : a = m
        · subst e
          refine .inr ?_
          obtain ⟨j, hj, e2⟩ := List.mem_iff_getElem.1 ((hmem' (b : Int)).2 ⟨b, rfl, by omega, h7⟩)
          refine ⟨j, hj, ?_⟩
          rw [rd_getElem _ j hj, e2, Int.toNat_natCast]; exact h8
        · exact .inl ⟨a, b, by omega, h5, h6, h7, h8⟩
    · rw [if_neg hq]
      refine ih k (m + 1) r qs (by omega) (by omega) (by omega) ?_ (hr.congr fun c => ?_)
      · intro x
        rw [hmem x]
        constructor
        · rintro ⟨a, h1, h2, h3⟩; exact ⟨a, h1, by omega, h3⟩
        · rintro ⟨a, h1, h2, h3⟩
          by_cases e : a = m
          · subst e; exact absurd h3.2 hq
          · exact ⟨a, h1, by omega, h3⟩
      · constructor
        · rintro ⟨a, b, h4, h5, h6, h7, h8⟩; exact ⟨a, b, by omega, h5, h6, h7, h8⟩
        · rintro ⟨a, b, h4, h5, h6, h7, h8⟩
          by_cases e : a = m
          · subst e; exact absurd h6.2 hq
          · exact ⟨a, b, by omega, h5, h6, h7, h8⟩
theorem LeastShared_f (l : List Int) : ∃ r : Int × Bool, (r.2 = true → okS l = true ∧ sumL l ≤ 3 * r.1 ∧ r.1 ≤ sumL l) ∧ (∀ k, l.length ≤ 1048576 → 1248700 < k → spec_LeastShared.f k l = some r) ∧ (∀ k, l.length ≤ 1048576 → 1248700 < k → impl_LeastShared.f k l = some r) := by
  by_cases h : okS l = true
  · have hl := okS_len h
    have hp := pow_bd hl.2
    have h0 : ∀ Q : Nat → Prop, (∀ c, ¬ Q c) → MinOf l (sumL l) Q := fun Q hQ => ⟨by omega, fun c hc => absurd hc (hQ c), .inl rfl⟩
    have hs : ∀ k, 1248700 < k → ∃ r, spec_LeastShared.f k l = some (r, true) ∧ MinOf l r (PI l (2 ^ l.length)) := by
      intro k hk
      obtain ⟨r, h1, h2⟩ := LS_l0 h (2 ^ l.length) k 0 (sumL l) (by omega) (by omega) (h0 _ fun c => by rintro ⟨a, h1, _⟩; omega)
      refine ⟨r, ?_, h2.congr (PS_PI h)⟩
      unfold spec_LeastShared.f
      rw [GoodStakesS_f (by omega) (by omega)]
      simp only [Option.bind_some, h, if_true]
      rw [spec_l1Sum_f (okS_big h) (by omega) (by omega)]
      exact h1
    have hi : ∀ k, 1248700 < k → ∃ r, impl_LeastShared.f k l = some (r, true) ∧ MinOf l r (PI l (2 ^ l.length)) := by
      intro k hk
      have hmem0 : ∀ x : Int, x ∈ ([] : List Int) ↔ ∃ a : Nat, x = a ∧ a < 0 ∧ isQ l a := by
        intro x
        constructor
        · intro h1; simp at h1
        · rintro ⟨a, _, h1, _⟩; omega
      obtain ⟨r, h1, h2⟩ := LI_l0 h (2 ^ l.length) k 0 (sumL l) [] (by omega) (by omega) (by simp) hmem0 (h0 _ fun c => by rintro ⟨a, b, h1, _⟩; omega)
      refine ⟨r, ?_, h2⟩
      unfold impl_LeastShared.f
      rw [areStakes_f (by omega) (by omega)]
      simp only [Option.bind_some, h, if_true]
      rw [impl_sumOf_f (okS_big h) (by omega) (by omega), shl_one (by omega) (by omega), Int.toNat_natCast]
      exact h1
    obtain ⟨r0, _, hr0⟩ := hs 1248701 (by omega)
    refine ⟨(r0, true), fun _ => ⟨h, ?_, hr0.1⟩, fun k _ hk => ?_, fun k _ hk => ?_⟩
    · have hs1 := okS_sum h
      rcases hr0.2.2 with e | ⟨c, ⟨a, b, _, _, hqa, hqb, ec⟩, e⟩
      · omega
      · rw [e, ec]
        exact quor_pair h (sub_lt hl.2 hqa.1) (sub_lt hl.2 hqb.1) hqa.2 hqb.2
    · obtain ⟨r, h1, h2⟩ := hs k hk
      rw [h1, h2.uniq hr0]
    · obtain ⟨r, h1, h2⟩ := hi k hk
      rw [h1, h2.uniq hr0]
  · refine ⟨(0, false), fun h2 => absurd h2 (by simp), fun k hn hk => ?_, fun k hn hk => ?_⟩
    · unfold spec_LeastShared.f
      rw [GoodStakesS_f (by omega) (by omega)]
      simp only [Option.bind_some]; rw [if_neg h]
    · unfold impl_LeastShared.f
      rw [areStakes_f (by omega) (by omega)]
      simp only [Option.bind_some]; rw [if_neg h]
theorem orAll_mask {m : Nat} (hm : m < 1024) : orAll (maskList (m : Int)) 0 = m := by
  apply Nat.eq_of_testBit_eq
  intro i
  rw [orAll_bit _ (fun y hy => ((maskList_mem hm y).1 hy).1)]
  simp only [Nat.zero_testBit, Bool.false_or]
  by_cases e : m.testBit i = true
  · have hi : i ≤ 9 := by
      by_cases e2 : i ≤ 9
      · exact e2
      · have h2 : 2 ^ 10 ≤ 2 ^ i := Nat.pow_le_pow_right (by omega) (by omega)
        rw [Nat.testBit_lt_two_pow (Nat.lt_of_lt_of_le hm h2)] at e
        exact absurd e (by simp)
    rw [e, decide_eq_true_eq, maskList_mem hm]
    exact ⟨by omega, by omega, by rwa [Int.toNat_natCast]⟩
  · rw [Bool.eq_false_iff.2 e, decide_eq_false_iff_not, maskList_mem hm, Int.toNat_natCast]
    exact fun h => e h.2.2
theorem impl_MaskOf_f {k : Nat} {l : List Int} (hn : l.length ≤ 1048576) (hk : 1048700 < k) : impl_MaskOf.f k l = some (if rising l 0 9 then (((orAll l 0 : Nat) : Int), true) else (0, false)) := by
  unfold impl_MaskOf.f
  simp (disch := omega) only [isGroup_f, Option.bind_some]
  by_cases hr : rising l 0 9 = true
  · rw [if_pos hr, if_pos hr, maskOf_f (rising_bd hr) (by omega) (by omega)]; rfl
  · rw [if_neg hr, if_neg hr]
def ofRes (m : Int) : List Int × Bool := if inn m 0 1023 then (maskList m, true) else ([], false)
theorem ofRes_len (m : Int) : (ofRes m).1.length ≤ 10 := by
  unfold ofRes
  split
  · exact maskList_len m
  · simp
theorem impl_OfMask_f {k : Nat} {m : Int} (hk : 20 < k) : impl_OfMask.f k m = some (ofRes m) := by
  unfold impl_OfMask.f ofRes
  rw [within_f]
  simp only [Option.bind_some]
  by_cases h : inn m 0 1023 = true
  · rw [if_pos h, if_pos h, ofMask_f (by omega)]; rfl
  · rw [if_neg h, if_neg h]
theorem spec_OfMask_f {k : Nat} {m : Int} (hk : 20 < k) : spec_OfMask.f k m = some (ofRes m) := by
  unfold spec_OfMask.f ofRes
  rw [l1In_f]
  simp only [Option.bind_some]
  by_cases h : inn m 0 1023 = true
  · rw [if_pos h, if_pos h, l1Mask_f (by omega)]; rfl
  · rw [if_neg h, if_neg h]
theorem W_j3 {k : Nat} {m : Int} (hk : 1048800 < k) : laws_FnWeights.j3 k m (ofRes m).1 (ofRes m).2 false = some true := by
  obtain ⟨k, rfl⟩ : ∃ q, k = q + 1 := ⟨k - 1, by omega⟩
  simp only [laws_FnWeights.j3, Bool.false_eq_true, if_false]
  unfold ofRes
  by_cases h : inn m 0 1023 = true
  · have h2 := inn_t.1 h
    have hlen := maskList_len m
    rw [if_pos h]
    simp only [if_true]
    obtain ⟨q, rfl⟩ := Int.eq_ofNat_of_zero_le h2.1
    rw [impl_MaskOf_f (by omega) (by omega)]
    simp only [Option.bind_some]
    rw [rising_mask (by omega), if_pos rfl, orAll_mask (by omega)]
    simp
  · rw [if_neg h]; simp
theorem W_j2 {k : Nat} {l : List Int} (hl : ∀ v ∈ l, 0 ≤ v ∧ v ≤ 255) (hn : l.length ≤ 1048576) (hk : 1048900 < k) : laws_FnWeights.j2 k l false = some true := by
  obtain ⟨k, rfl⟩ : ∃ q, k = q + 1 := ⟨k - 1, by omega⟩
  obtain ⟨b, n1, s1, e1, h1, h2, h3, h4⟩ := pick_ex hl (by omega) 0 0 256 (by omega) (by omega)
  obtain ⟨m, n2, s2, e2, h5, h6, h7⟩ := among_ex hl (by omega) n1 s1 [(-1), 0, 1, 5, 1023, 1024, wrap64 (b * 4)] (by simp) (by omega) (by omega)
  have ed : spec_DrawOfMask.f l = some m := by
    unfold spec_DrawOfMask.f
    rw [e1]; simp only [Option.bind_some]
    rw [e2]; rfl
  obtain ⟨c, n3, s3, e3, h8, h9, h10, h11⟩ := pick_ex hl (by omega) 0 0 9 (by omega) (by omega)
  have hb : 0 ≤ Int.tdiv c 8 ∧ Int.tdiv c 8 ≤ 2 := by
    rw [Int.tdiv_eq_ediv_of_nonneg h10]; omega
  obtain ⟨g, n4, s4, e4, h12, h13, h14⟩ := group_ex hl (by omega) k n3 s3 (10 + Int.tdiv c 8) (by omega) (by omega) (by omega) (by omega)
  have eg : spec_DrawMaskOf.f k l = some g := by
    unfold spec_DrawMaskOf.f
    rw [e3]; simp only [Option.bind_some]
    rw [w64 (n := Int.tdiv c 8) (by omega) (by omega), w64 (n := 10 + Int.tdiv c 8) (by omega) (by omega), e4]; rfl
  have hlen := ofRes_len m
  simp only [laws_FnWeights.j2, Bool.false_eq_true, if_false]
  rw [ed]; simp only [Option.bind_some]
  rw [impl_OfMask_f (by omega), spec_OfMask_f (by omega)]
  simp only [Option.bind_some]
  rw [eg]; simp only [Option.bind_some]
  rw [impl_MaskOf_f (by omega) (by omega), MaskOfS_f (by omega) (by omega)]
  simp only [Option.bind_some, bne_self_eq_false, Bool.false_eq_true, if_false]
  rw [sameInts_f (by omega) (by omega)]
  simp only [Option.bind_some, if_true]
  exact W_j3 (by omega)
theorem W_j1 {k : Nat} {l : List Int} (hl : ∀ v ∈ l, 0 ≤ v ∧ v ≤ 255) (hn : l.length ≤ 1048576) (hk : 1749000 < k) : laws_FnWeights.j1 k l = some true := by
  obtain ⟨k, rfl⟩ : ∃ q, k = q + 1 := ⟨k - 1, by omega⟩
  obtain ⟨st, n1, s1, e1, _, _, hst⟩ := stakes_ex hl (by omega) k 0 0 (by omega) (by omega) (by omega)
  obtain ⟨st', ed, hst'⟩ : ∃ st', spec_DrawLeastShared.f k l = some st' ∧ st'.length ≤ 11 := by
    unfold spec_DrawLeastShared.f
    rw [e1]; simp only [Option.bind_some]
    by_cases h : (st.length : Int) > 7
    · rw [if_pos h, if_pos (by omega)]
      exact ⟨_, rfl, by rw [List.length_take]; omega⟩
    · rw [if_neg h]
      exact ⟨_, rfl, hst⟩
  obtain ⟨r, hr, hs, hi⟩ := LeastShared_f st'
  simp only [laws_FnWeights.j1]
  rw [ed]; simp only [Option.bind_some]
  rw [hi k (by omega) (by omega), hs k (by omega) (by omega)]
  simp only [Option.bind_some, bne_self_eq_false, Bool.false_eq_true, if_false, if_true]
  have hj := W_j2 (k := k) hl hn (by omega)
  by_cases h2 : r.2 = true
  · obtain ⟨hok, h3, h4⟩ := hr h2
    have h5 := okS_sum hok
    have h6 := okS_len hok
    rw [if_pos h2, laws_sumOf_f (okS_big hok) (by omega) (by omega)]
    simp only [Option.bind_some]
    rw [w64 (n := 3 * r.1) (by omega) (by omega), decide_eq_false (by omega), hj]
  · rw [if_neg h2, hj]
theorem FnWeights : ∀ (l0 : List (Int)) (l1 : List (Int)), l0.length * 1 ≤ 140737488351232 → (∀ v ∈ l0, (Lit.int .u8 v).wf = true) → l1.length * 1 ≤ 140737488351232 → (∀ v ∈ l1, (Lit.int .u8 v).wf = true) → ∃ k, laws_FnWeights.f k l0 l1 = some true := by
  intro l0 l1 hl0 hw0 hl1 hw1
  have hb0 := u8_bd hw0
  have hb1 := u8_bd hw1
  suffices h : ∀ k, 2000000 ≤ k → laws_FnWeights.f k l0 l1 = some true from ⟨_, h _ (Nat.le_refl _)⟩
  intro k hk
  unfold laws_FnWeights.f
  rw [w64 (n := (l0.length : Int) + (l1.length : Int)) (by omega) (by omega)]
  by_cases h : (l0.length : Int) + (l1.length : Int) > 1048576
  · rw [if_pos h]
  · rw [if_neg h]
    obtain ⟨st, n1, s1, e1, hn1, hn2, hst⟩ := stakes_ex hb0 (by omega) k 0 0 (by omega) (by omega) (by omega)
    obtain ⟨c, n3, s3, e3, h8, h9, h10, h11⟩ := pick_ex hb0 (by omega) n1 s1 9 (by omega) (by omega)
    have hb : 0 ≤ Int.tdiv c 8 ∧ Int.tdiv c 8 ≤ 2 := by
      rw [Int.tdiv_eq_ediv_of_nonneg h10]; omega
    obtain ⟨g, n4, s4, e4, h12, h13, hg⟩ := group_ex hb0 (by omega) k n3 s3 ((st.length : Int) + Int.tdiv c 8) (by omega) (by omega) (by omega) (by omega)
    have ed : spec_DrawIsGreat.f k l0 = some (st, g) := by
      unfold spec_DrawIsGreat.f spec_DrawWeightOf.f
      rw [e1]; simp only [Option.bind_some]
      rw [e3]; simp only [Option.bind_some]
      rw [w64 (n := Int.tdiv c 8) (by omega) (by omega), w64 (n := (st.length : Int) + Int.tdiv c 8) (by omega) (by omega), e4]; rfl
    have eG : impl_GoodStakes.f k st = some (okS st) := by
      unfold impl_GoodStakes.f; rw [areStakes_f (by omega) (by omega)]; rfl
    rw [ed]; simp only [Option.bind_some]
    rw [impl_IsGreat_f (by omega) (by omega) (by omega), spec_IsGreat_f (by omega) (by omega) (by omega)]
    simp only [Option.bind_some]
    rw [impl_WeightOf_f (by omega) (by omega) (by omega), spec_WeightOf_f (by omega) (by omega) (by omega)]
    simp only [Option.bind_some, bne_self_eq_false, Bool.false_eq_true, if_false, if_true]
    rw [eG, GoodStakesS_f (by omega) (by omega)]
    simp only [Option.bind_some, bne_self_eq_false]
    obtain ⟨m, hm1, hm2⟩ : ∃ m, k = m + 1 ∧ 1999990 ≤ m := ⟨k - 1, by omega, by omega⟩
    rw [hm1]
    simp only [laws_FnWeights.j0, Bool.false_eq_true, if_false]
    have hj := W_j1 (k := m) hb1 (by omega) (by omega)
    by_cases hok : groupOk st g = true
    · obtain ⟨ho, hr9, hin, hgl⟩ := groupOk_w hok
      have hl := okS_len ho
      have hp := pow_bd hl.2
      have hsum := okS_sum ho
      obtain ⟨t, e5, ht0, ht1⟩ := numberOf_ex (k := m) hb1 (by omega) (by omega)
      obtain ⟨q, e6, hq3⟩ := shl_full' hl.2 ht0
      have hne : ¬ shl .i64 1 (IntKind.u64.wrap (st.length : Int)) = 0 := by rw [shl_full hl.2]; omega
      have hml2 := maskList_len (q : Int)
      have hq4 := sub_lt hl.2 hq3
      have eg : greatRes st g = (quor st (sumL (g.map (rd st))), true) := by unfold greatRes; rw [if_pos hok]
      have ew : weightRes st g = (sumL (g.map (rd st)), true) := by unfold weightRes; rw [if_pos hok]
      have hA := orAll_lt g (rising_bd hr9) 0 (by omega)
      have hA2 : orAll g 0 < 2 ^ st.length := by
        refine Nat.lt_pow_two_of_testBit _ fun i hi => ?_
        rw [orAll_bit g (fun y hy => (hin y hy).1)]
        simp only [Nat.zero_testBit, Bool.false_or, decide_eq_false_iff_not]
        intro hm
        have := hin _ hm
        omega
      have eGl := maskList_orAll hr9
      have eand : g.filter (fun x => decide (x ∈ maskList (q : Int))) = maskList ((orAll g 0 &&& q : Nat) : Int) := by
        have := maskList_and hr9 (rising_mask hq4)
        rw [orAll_mask hq4] at this
        exact this.symm
      have eb : inBoth g (maskList (q : Int)) = (maskList ((orAll g 0 &&& q : Nat) : Int), true) := by
        unfold inBoth
        rw [hr9, rising_mask hq4, eand]; rfl
      have hAq : orAll g 0 &&& q < 2 ^ st.length := Nat.lt_of_le_of_lt Nat.and_le_left hA2
      have hml3 := maskList_len ((orAll g 0 &&& q : Nat) : Int)
      have ew2 : weightRes st (maskList ((orAll g 0 &&& q : Nat) : Int)) = (wOf st ((orAll g 0 &&& q : Nat) : Int), true) := by
        unfold weightRes
        rw [group_mask ho hAq, wOf_list hl.2]; rfl
      have hw := wOf_bd (m := ((orAll g 0 &&& q : Nat) : Int)) ho
      have eqA : sumL (g.map (rd st)) = wOf st ((orAll g 0 : Nat) : Int) := by rw [← wOf_list hl.2, eGl]
      rw [eg, ew]
      simp only [if_true]
      rw [e5]; simp only [Option.bind_some]
      rw [if_pos (wrapu_nn _).1, if_neg hne, e6, OfMask_m hq4 (by omega)]
      simp only [Option.bind_some]
      rw [impl_IsGreat_f (by omega) (by omega) (by omega), great_mask ho hq3]
      simp only [Option.bind_some]
      rw [impl_InBoth_f (by omega) (by omega) (by omega), eb]
      simp only [Option.bind_some]
      rw [impl_WeightOf_f (by omega) (by omega) (by omega), ew2]
      simp only [Option.bind_some, if_true]
      by_cases hg1 : quor st (sumL (g.map (rd st))) = true
      · rw [if_pos hg1]
        by_cases hg2 : quor st (wOf st q) = true
        · rw [if_pos hg2, laws_sumOf_f (okS_big ho) (by omega) (by omega)]
          simp only [Option.bind_some]
          rw [eqA] at hg1
          have := quor_pair ho hA hq4 hg1 hg2
          rw [w64 (n := 3 * wOf st ((orAll g 0 &&& q : Nat) : Int)) (by omega) (by omega), if_neg (by omega), hj]
        · rw [if_neg hg2, hj]
      · rw [if_neg hg1, hj]
    · have er : greatRes st g = (false, false) := by unfold greatRes; rw [if_neg hok]
      rw [er]
      simp only [Bool.false_eq_true, if_false]
      exact hj

end Go.Proofs.Ytejjchgjfapkkaa.Pure
