/- What the program tells of turns, lots and seeds is what the reference tells and what the statement asks, at every two lists of bytes. No condition. -/
import Derived.Test.YtejjchgjfapkkaaPFnTurnsx0
import Derived.Test.YtejjchgjfapkkaaPFnTurnsx1
import Derived.Test.YtejjchgjfapkkaaPFnTurnsx2
import Derived.Test.YtejjchgjfapkkaaPFnTurnsx3
import Derived.Test.YtejjchgjfapkkaaPFnTurnsx4
import Derived.Test.YtejjchgjfapkkaaPFnTurnsx5
import Derived.Test.YtejjchgjfapkkaaPFnTurnsx6
namespace Go.Proofs.Ytejjchgjfapkkaa.Pure
open Go.RowKit Go.Proofs.Ytejjchgjfapkkaa.PFnTurns Go.Proofs.YtejjchgjfapkkaaW.PrintWords Go.Proofs.YtejjchgjfapkkaaW.PrintLast Go.Proofs.YtejjchgjfapkkaaW.PrintMore
set_option linter.unusedVariables false
set_option linter.unusedSimpArgs false
theorem w64 {n : Int} (h0 : -9223372036854775808 ≤ n) (h1 : n ≤ 9223372036854775807) : wrap64 n = n := by unfold wrap64; omega
theorem w64s {i : Nat} (h1 : i ≤ 1000000000000000) : wrap64 ((i : Int) + 1) = ((i + 1 : Nat) : Int) := by rw [w64 (by omega) (by omega)]; omega
theorem rd_eq (l : List Int) (i : Nat) : rd l (i : Int) = l.getD i 0 := by simp [rd]
theorem rd_get (l : List Int) (i : Nat) (h : i < l.length) : l[i]? = some (rd l (i : Int)) := by
  simp [rd, List.getD_eq_getElem?_getD, List.getElem?_eq_getElem h]
theorem rd_mem (l : List Int) (i : Nat) (h : i < l.length) : rd l (i : Int) ∈ l := List.mem_of_getElem? (rd_get l i h)
theorem step_k {k d : Nat} (h : d < k) : ∃ m, k = m + 1 := ⟨k - 1, by omega⟩
def inn (a b c : Int) : Bool := decide (b ≤ a ∧ a ≤ c)
theorem inn_t {a b c : Int} : inn a b c = true ↔ b ≤ a ∧ a ≤ c := by simp [inn]
theorem inn_f {a b c : Int} : inn a b c = false ↔ a < b ∨ c < a := by simp [inn]; omega
theorem l1In_f (a b c : Int) : spec_l1In.f a b c = some (inn a b c) := by
  unfold spec_l1In.f inn
  by_cases h : a ≥ b
  · rw [if_pos h]; simp [show b ≤ a from h]
  · rw [if_neg h]; simp [show ¬ b ≤ a from h]
theorem within_f (a b c : Int) : impl_within.f a b c = some (inn a b c) := by
  unfold impl_within.f inn
  by_cases h : a ≥ b
  · rw [if_pos h]; simp [show b ≤ a from h]
  · rw [if_neg h]; simp [show ¬ b ≤ a from h]
def allFrom (l : List Int) (lo hi : Int) : Nat → Nat → Bool
  | _, 0 => true
  | i, d + 1 => inn (rd l i) lo hi && allFrom l lo hi (i + 1) d
def allIn (l : List Int) (lo hi : Int) : Bool := allFrom l lo hi 0 l.length
theorem allFrom_iff (l : List Int) (lo hi : Int) : ∀ d i, allFrom l lo hi i d = true ↔ ∀ j : Nat, i ≤ j → j < i + d → lo ≤ rd l j ∧ rd l j ≤ hi := by
  intro d
  induction d with
  | zero => intro i; simp only [allFrom, true_iff]; intro j h1 h2; omega
  | succ d ih =>
    intro i
    simp only [allFrom, Bool.and_eq_true, ih, inn_t]
    constructor
    · rintro ⟨h1, h3⟩ j hj hj2
      by_cases e : j = i
      · subst e; exact h1
      · exact h3 j (by omega) (by omega)
    · intro h
      exact ⟨h i (Nat.le_refl _) (by omega), fun j hj hj2 => h j (by omega) (by omega)⟩
theorem allIn_bd {l : List Int} {lo hi : Int} (h : allIn l lo hi = true) : ∀ x ∈ l, lo ≤ x ∧ x ≤ hi := by
  intro x hx
  obtain ⟨i, hi', rfl⟩ := List.mem_iff_getElem.1 hx
  have := (allFrom_iff l lo hi l.length 0).1 h i (by omega) (by omega)
  rw [rd_eq, List.getD_eq_getElem?_getD, List.getElem?_eq_getElem hi'] at this
  exact this
theorem allIn_of {l : List Int} {lo hi : Int} (h : ∀ x ∈ l, lo ≤ x ∧ x ≤ hi) : allIn l lo hi = true := (allFrom_iff l lo hi l.length 0).2 fun j _ hj => h _ (rd_mem l j (by omega))
theorem l1All_l0 (l : List Int) (lo hi : Int) (hn : l.length ≤ 100000000000000) (d : Nat) : ∀ (k i : Nat), i + d = l.length → d < k → spec_l1All.l0 k lo hi l (l.length : Int) i = some (allFrom l lo hi i d) := by
  induction d with
  | zero =>
    intro k i hi' hk
    obtain ⟨k, rfl⟩ := step_k hk
    simp only [spec_l1All.l0]; rw [if_neg (by omega)]; rfl
  | succ d ih =>
    intro k i hi' hk
    obtain ⟨k, rfl⟩ := step_k hk
    simp only [spec_l1All.l0, l1In_f, Option.bind_some]
    rw [if_pos (by omega), if_pos (by omega), if_pos (by omega), w64s (by omega), ih k (i + 1) (by omega) (by omega)]
    simp only [allFrom]
    by_cases h1 : inn (rd l i) lo hi = true
    · rw [if_pos h1, h1]; simp
    · rw [if_neg h1]; simp [h1]
theorem l1All_f {k : Nat} {l : List Int} {lo hi : Int} (hn : l.length ≤ 100000000000000) (hk : l.length < k) : spec_l1All.f k l lo hi = some (allIn l lo hi) := by
  unfold spec_l1All.f
  exact l1All_l0 l lo hi hn l.length k 0 (by omega) hk
theorem IndexFunc_l0 (l : List Int) (hn : l.length ≤ 100000000000000) (d : Nat) : ∀ (k i : Nat), i + d = l.length → d < k → ∃ r, slices_IndexFunc_int_int.l0 k l (l.length : Int) i = some r ∧ (0 ≤ r ↔ allFrom l 1 1000 i d = false) := by
  induction d with
  | zero =>
    intro k i hi' hk
    obtain ⟨k, rfl⟩ := step_k hk
    simp only [slices_IndexFunc_int_int.l0]
    rw [if_neg (by omega)]
    exact ⟨_, rfl, by simp [allFrom]⟩
  | succ d ih =>
    intro k i hi' hk
    obtain ⟨k, rfl⟩ := step_k hk
    obtain ⟨r, hr, hiff⟩ := ih k (i + 1) (by omega) (by omega)
    simp only [slices_IndexFunc_int_int.l0, impl_areStakes_1.f, within_f, Option.bind_some]
    rw [if_pos (by omega), if_pos (by omega), if_pos (by omega), w64s (by omega)]
    simp only [allFrom]
    by_cases h1 : inn (rd l i) 1 1000 = true
    · rw [h1]
      simp only [Bool.not_true, Bool.false_eq_true, if_false, Bool.true_and]
      exact ⟨r, hr, hiff⟩
    · rw [Bool.eq_false_iff.2 h1]
      simp only [Bool.not_false, if_true, Bool.false_and]
      exact ⟨_, rfl, by simp⟩
theorem ContainsFunc_f {k : Nat} {l : List Int} {a : Int} (hn : l.length ≤ 100000000000000) (hk : l.length < k) : slices_ContainsFunc_int_int.f k l a = some (!allIn l 1 1000) := by
  unfold slices_ContainsFunc_int_int.f slices_IndexFunc_int_int.f
  obtain ⟨r, hr, hiff⟩ := IndexFunc_l0 l hn l.length k 0 (by omega) hk
  rw [show (0 : Int) = ((0 : Nat) : Int) from rfl, hr]
  simp only [Option.bind_some]
  congr 1
  unfold allIn
  rw [Bool.eq_iff_iff]
  simp only [decide_eq_true_eq, Bool.not_eq_true']
  exact hiff
def okS (l : List Int) : Bool := inn (l.length : Int) 1 10 && allIn l 1 1000
theorem okS_len {l : List Int} (h : okS l = true) : 1 ≤ l.length ∧ l.length ≤ 10 := by
  simp only [okS, Bool.and_eq_true, inn_t] at h; omega
theorem okS_bd {l : List Int} (h : okS l = true) : ∀ x ∈ l, 1 ≤ x ∧ x ≤ 1000 := by
  simp only [okS, Bool.and_eq_true] at h; exact allIn_bd h.2
theorem GoodStakesS_f {k : Nat} {l : List Int} (hn : l.length ≤ 100000000000000) (hk : l.length < k) : spec_GoodStakes.f k l = some (okS l) := by
  unfold spec_GoodStakes.f okS
  simp (disch := assumption) only [l1In_f, l1All_f, Option.bind_some]
  by_cases h : inn (l.length : Int) 1 10 = true
  · rw [if_pos h, h, Bool.true_and]
  · rw [if_neg h]; simp [h]
theorem areStakes_f {k : Nat} {l : List Int} (hn : l.length ≤ 100000000000000) (hk : 30 < k) : impl_areStakes.f k l = some (okS l) := by
  unfold impl_areStakes.f okS
  simp only [within_f, Option.bind_some]
  by_cases h : inn (l.length : Int) 1 10 = true
  · have h2 := inn_t.1 h
    rw [if_pos h, h, Bool.true_and, ContainsFunc_f hn (by omega)]
    simp
  · rw [if_neg h]; simp [h]
def sumL : List Int → Int
  | [] => 0
  | x :: l => x + sumL l
theorem sumL_append (a b : List Int) : sumL (a ++ b) = sumL a + sumL b := by
  induction a with
  | nil => simp [sumL]
  | cons x a ih => simp only [List.cons_append, sumL, ih]; omega
theorem sumL_bd {l : List Int} {M : Int} (h : ∀ x ∈ l, 0 ≤ x ∧ x ≤ M) : 0 ≤ sumL l ∧ sumL l ≤ M * l.length := by
  induction l with
  | nil => simp [sumL]
  | cons x l ih =>
    have h1 := h x (by simp)
    have h2 := ih fun y hy => h y (by simp [hy])
    simp only [sumL, List.length_cons]
    have : M * ((l.length + 1 : Nat) : Int) = M * l.length + M := by rw [Int.natCast_add, Int.mul_add]; simp
    omega
theorem drop_rd (l : List Int) (i : Nat) (h : i < l.length) : l.drop i = rd l i :: l.drop (i + 1) := by
  rw [List.drop_eq_getElem_cons h]
  congr 1
  rw [rd_eq, List.getD_eq_getElem?_getD, List.getElem?_eq_getElem h]; rfl
theorem spec_l1Sum_l0 (l : List Int) (h : ∀ x ∈ l, 0 ≤ x ∧ x ≤ 10000000) (hn : l.length ≤ 1000000) (d : Nat) : ∀ (k i : Nat) (acc : Int), 0 ≤ acc → acc ≤ 10000000 * (i : Int) → i + d = l.length → d < k → spec_l1Sum.l0 k acc l (l.length : Int) i = some (acc + sumL (l.drop i)) := by
  induction d with
  | zero =>
    intro k i acc _ _ hi' hk
    obtain ⟨k, rfl⟩ := step_k hk
    simp only [spec_l1Sum.l0]; rw [if_neg (by omega), List.drop_eq_nil_of_le (by omega)]; simp [sumL]
  | succ d ih =>
    intro k i acc h0 h1 hi' hk
    obtain ⟨k, rfl⟩ := step_k hk
    have hx := h _ (rd_mem l i (by omega))
    simp only [spec_l1Sum.l0]
    rw [if_pos (by omega), if_pos (by omega), if_pos (by omega), w64s (by omega), w64 (n := acc + rd l i) (by omega) (by omega), ih k (i + 1) _ (by omega) (by omega) (by omega) (by omega), drop_rd l i (by omega)]
    simp only [sumL]
    congr 1; omega
theorem spec_l1Sum_f {k : Nat} {l : List Int} (h : ∀ x ∈ l, 0 ≤ x ∧ x ≤ 10000000) (hn : l.length ≤ 1000000) (hk : l.length < k) : spec_l1Sum.f k l = some (sumL l) := by
  unfold spec_l1Sum.f
  have := spec_l1Sum_l0 l h hn l.length k 0 0 (by omega) (by omega) (by omega) hk
  simpa using this
theorem impl_sumOf_l0 (l : List Int) (h : ∀ x ∈ l, 0 ≤ x ∧ x ≤ 10000000) (hn : l.length ≤ 1000000) (d : Nat) : ∀ (k i : Nat) (acc : Int), 0 ≤ acc → acc ≤ 10000000 * (i : Int) → i + d = l.length → d < k → impl_sumOf.l0 k acc l (l.length : Int) i = some (acc + sumL (l.drop i)) := by
  induction d with
  | zero =>
    intro k i acc _ _ hi' hk
    obtain ⟨k, rfl⟩ := step_k hk
    simp only [impl_sumOf.l0]; rw [if_neg (by omega), List.drop_eq_nil_of_le (by omega)]; simp [sumL]
  | succ d ih =>
    intro k i acc h0 h1 hi' hk
    obtain ⟨k, rfl⟩ := step_k hk
    have hx := h _ (rd_mem l i (by omega))
    simp only [impl_sumOf.l0]
    rw [if_pos (by omega), if_pos (by omega), if_pos (by omega), w64s (by omega), w64 (n := acc + rd l i) (by omega) (by omega), ih k (i + 1) _ (by omega) (by omega) (by omega) (by omega), drop_rd l i (by omega)]
    simp only [sumL]
    congr 1; omega
theorem impl_sumOf_f {k : Nat} {l : List Int} (h : ∀ x ∈ l, 0 ≤ x ∧ x ≤ 10000000) (hn : l.length ≤ 1000000) (hk : l.length < k) : impl_sumOf.f k l = some (sumL l) := by
  unfold impl_sumOf.f
  have := impl_sumOf_l0 l h hn l.length k 0 0 (by omega) (by omega) (by omega) hk
  simpa using this
theorem laws_sumOf_l0 (l : List Int) (h : ∀ x ∈ l, 0 ≤ x ∧ x ≤ 10000000) (hn : l.length ≤ 1000000) (d : Nat) : ∀ (k i : Nat) (acc : Int), 0 ≤ acc → acc ≤ 10000000 * (i : Int) → i + d = l.length → d < k → laws_sumOf.l0 k acc l (l.length : Int) i = some (acc + sumL (l.drop i)) := by
  induction d with
  | zero =>
    intro k i acc _ _ hi' hk
    obtain ⟨k, rfl⟩ := step_k hk
    simp only [laws_sumOf.l0]; rw [if_neg (by omega), List.drop_eq_nil_of_le (by omega)]; simp [sumL]
  | succ d ih =>
    intro k i acc h0 h1 hi' hk
    obtain ⟨k, rfl⟩ := step_k hk
    have hx := h _ (rd_mem l i (by omega))
    simp only [laws_sumOf.l0]
    rw [if_pos (by omega), if_pos (by omega), if_pos (by omega), w64s (by omega), w64 (n := acc + rd l i) (by omega) (by omega), ih k (i + 1) _ (by omega) (by omega) (by omega) (by omega), drop_rd l i (by omega)]
    simp only [sumL]
    congr 1; omega
theorem laws_sumOf_f {k : Nat} {l : List Int} (h : ∀ x ∈ l, 0 ≤ x ∧ x ≤ 10000000) (hn : l.length ≤ 1000000) (hk : l.length < k) : laws_sumOf.f k l = some (sumL l) := by
  unfold laws_sumOf.f
  have := laws_sumOf_l0 l h hn l.length k 0 0 (by omega) (by omega) (by omega) hk
  simpa using this
theorem okS_big {l : List Int} (h : okS l = true) : ∀ x ∈ l, 0 ≤ x ∧ x ≤ 10000000 := fun x hx => by have := okS_bd h x hx; omega
theorem okS_sum {l : List Int} (h : okS l = true) : 1 ≤ sumL l ∧ sumL l ≤ 10000 := by
  have h1 := sumL_bd (M := 1000) fun x hx => (by have := okS_bd h x hx; omega : 0 ≤ x ∧ x ≤ 1000)
  have h2 := okS_len h
  refine ⟨?_, by omega⟩
  match l, h, h2 with
  | x :: r, h, _ =>
    have h3 := okS_bd h x (by simp)
    have h4 := sumL_bd (l := r) (M := 1000) fun y hy => (by have := okS_bd h y (by simp [hy]); omega : 0 ≤ y ∧ y ≤ 1000)
    simp only [sumL]
    omega
def lotF (l : List Int) : Int → Nat → Nat → Int
  | _, _, 0 => -1
  | n, i, d + 1 => if n < rd l i then (i : Int) else lotF l (n - rd l i) (i + 1) d
def lot (l : List Int) (n : Int) : Int := lotF l n 0 l.length
theorem l2Lot_l0 (l : List Int) (h : ∀ x ∈ l, 0 ≤ x ∧ x ≤ 10000000) (hn : l.length ≤ 1000) (d : Nat) : ∀ (k i : Nat) (n : Int), 0 ≤ n → n ≤ 1000000000000 → i + d = l.length → d < k → spec_l2Lot.l0 k n l (l.length : Int) i = some (lotF l n i d) := by
  induction d with
  | zero =>
    intro k i n _ _ hi' hk
    obtain ⟨k, rfl⟩ := step_k hk
    simp only [spec_l2Lot.l0]; rw [if_neg (by omega)]; rfl
  | succ d ih =>
    intro k i n h0 h1 hi' hk
    obtain ⟨k, rfl⟩ := step_k hk
    have hx := h _ (rd_mem l i (by omega))
    simp only [spec_l2Lot.l0, lotF]
    rw [if_pos (by omega), if_pos (by omega), if_pos (by omega), w64s (by omega)]
    by_cases hlt : n < rd l i
    · rw [if_pos hlt, if_pos hlt]
    · rw [if_neg hlt, if_neg hlt, w64 (n := n - rd l i) (by omega) (by omega), ih k (i + 1) _ (by omega) (by omega) (by omega) (by omega)]
theorem l2Lot_f {k : Nat} {l : List Int} {n : Int} (h : okS l = true) (h0 : 0 ≤ n) (h1 : n ≤ 1000000000000) (hk : 30 < k) : spec_l2Lot.f k l n = some (lot l n) := by
  unfold spec_l2Lot.f
  have := okS_len h
  exact l2Lot_l0 l (okS_big h) (by omega) l.length k 0 n h0 h1 (by omega) (by omega)
theorem lotAt_l0 (l : List Int) (h : ∀ x ∈ l, 0 ≤ x ∧ x ≤ 10000000) (hn : l.length ≤ 1000) (d : Nat) : ∀ (k i : Nat) (n s : Int), 0 ≤ n - s → n - s < sumL (l.drop i) → 0 ≤ s → s ≤ 10000000 * (i : Int) → i + d = l.length → d < k → impl_lotAt.l0 k l n s l (l.length : Int) i = some (lotF l (n - s) i d) := by
  induction d with
  | zero =>
    intro k i n s h0 h1 _ _ hi' hk
    rw [List.drop_eq_nil_of_le (by omega)] at h1
    simp only [sumL] at h1
    omega
  | succ d ih =>
    intro k i n s h0 h1 hs0 hs1 hi' hk
    obtain ⟨k, rfl⟩ := step_k hk
    have hx := h _ (rd_mem l i (by omega))
    rw [drop_rd l i (by omega)] at h1
    simp only [sumL] at h1
    simp only [impl_lotAt.l0, lotF]
    rw [if_pos (by omega), if_pos (by omega), if_pos (by omega), w64s (by omega), w64 (n := s + rd l i) (by omega) (by omega)]
    by_cases hlt : n - s < rd l i
    · rw [if_pos hlt, if_pos (by omega)]
    · rw [if_neg hlt, if_neg (by omega), ih k (i + 1) n (s + rd l i) (by omega) (by omega) (by omega) (by omega) (by omega) (by omega), show n - (s + rd l i) = n - s - rd l i by omega]
theorem lotAt_f {k : Nat} {l : List Int} {n : Int} (h : okS l = true) (h0 : 0 ≤ n) (h1 : n < sumL l) (hk : 30 < k) : impl_lotAt.f k l n = some (lot l n) := by
  unfold impl_lotAt.f
  have := okS_len h
  have := lotAt_l0 l (okS_big h) (by omega) l.length k 0 n 0 (by omega) (by simpa using h1) (by omega) (by omega) (by omega) (by omega)
  rw [Int.sub_zero] at this
  exact this
def nx (s : Int) : Int := 17364 * s % 65521
theorem nx_bd (s : Int) : 0 ≤ nx s ∧ nx s ≤ 65520 := by unfold nx; omega
def turnsF (l : List Int) : Nat → Int → List Int
  | 0, _ => []
  | m + 1, s => lot l (nx s % sumL l) :: turnsF l m (nx s)
theorem turnsF_len (l : List Int) : ∀ m s, (turnsF l m s).length = m := by
  intro m
  induction m with
  | zero => intro s; rfl
  | succ m ih => intro s; simp [turnsF, ih]
def okSeed (s : Int) : Bool := inn s 1 65520
theorem l2Next_f {s : Int} (h0 : 0 ≤ s) (h1 : s ≤ 65520) : spec_l2Next.f s = some (nx s) := by
  unfold spec_l2Next.f nx
  rw [w64 (by omega) (by omega), Int.tmod_eq_emod_of_nonneg (by omega)]
theorem l2Turns_l0 {l : List Int} (h : okS l = true) : ∀ (d k : Nat) (s m : Int) (acc : List Int), m = d → 0 ≤ s → s ≤ 65520 → acc.length + d ≤ 1000000 → d + 60 < k → spec_l2Turns.l0 k l s m acc = some (acc ++ turnsF l d s) := by
  have hl := okS_len h
  have hs := okS_sum h
  intro d
  induction d with
  | zero =>
    intro k s m acc hm _ _ _ hk
    obtain ⟨k, rfl⟩ : ∃ q, k = q + 1 := ⟨k - 1, by omega⟩
    simp only [spec_l2Turns.l0]
    rw [if_neg (by omega)]; simp [turnsF]
  | succ d ih =>
    intro k s m acc hm h0 h1 hacc hk
    obtain ⟨k, rfl⟩ : ∃ q, k = q + 1 := ⟨k - 1, by omega⟩
    have hx := nx_bd s
    simp only [spec_l2Turns.l0]
    rw [if_pos (by omega), l2Next_f h0 h1]
    simp only [Option.bind_some]
    rw [spec_l1Sum_f (okS_big h) (by omega) (by omega)]
    simp only [Option.bind_some]
    have hm0 : 0 ≤ nx s % sumL l := Int.emod_nonneg _ (by omega)
    have hm1 : nx s % sumL l < sumL l := Int.emod_lt_of_pos _ (by omega)
    rw [if_neg (by omega), Int.tmod_eq_emod_of_nonneg hx.1, l2Lot_f h hm0 (by omega) (by omega)]
    simp only [Option.bind_some]
    rw [if_pos (by omega), w64 (n := m - 1) (by omega) (by omega), ih k (nx s) (m - 1) _ (by omega) hx.1 hx.2 (by simp; omega) (by omega)]
    simp [turnsF]
theorem l2Turns_f {k d : Nat} {l : List Int} {s m : Int} (h : okS l = true) (hm : m = d) (h0 : 0 ≤ s) (h1 : s ≤ 65520) (hd : d ≤ 200) (hk : d + 60 < k) : spec_l2Turns.f k l s m = some (turnsF l d s) := by
  unfold spec_l2Turns.f
  rw [l2Turns_l0 h d k s m [] hm h0 h1 (by simp; omega) hk]; rfl
theorem l2Good_f {k : Nat} {l : List Int} {s : Int} (hn : l.length ≤ 100000000000000) (hk : l.length < k) : spec_l2Good.f k l s = some (okS l && okSeed s) := by
  unfold spec_l2Good.f spec_l2Seed.f okSeed
  simp (disch := omega) only [GoodStakesS_f, l1In_f, Option.bind_some]
  by_cases h : okS l = true
  · rw [if_pos h, h, Bool.true_and]
  · rw [if_neg h]; simp [h]
theorem nextSeed_f {s : Int} (h0 : 0 ≤ s) (h1 : s ≤ 65520) : impl_nextSeed.f s = some (nx s) := by
  unfold impl_nextSeed.f nx
  rw [w64 (by omega) (by omega), Int.tmod_eq_emod_of_nonneg (by omega)]
theorem turnsIn_l0 {l : List Int} (h : okS l = true) (m : Int) (hm : m ≤ 1000000) : ∀ (d k i : Nat) (s : Int) (acc : List Int), (i : Int) + d = m → 0 ≤ s → s ≤ 65520 → acc.length + d ≤ 1000000 → d + 60 < k → impl_turnsIn.l0 k l s acc (sumL l) m i = some (acc ++ turnsF l d s) := by
  have hl := okS_len h
  have hs := okS_sum h
  intro d
  induction d with
  | zero =>
    intro k i s acc hi _ _ _ hk
    obtain ⟨k, rfl⟩ : ∃ q, k = q + 1 := ⟨k - 1, by omega⟩
    simp only [impl_turnsIn.l0]
    rw [if_neg (by omega)]; simp [turnsF]
  | succ d ih =>
    intro k i s acc hi h0 h1 hacc hk
    obtain ⟨k, rfl⟩ : ∃ q, k = q + 1 := ⟨k - 1, by omega⟩
    have hx := nx_bd s
    simp only [impl_turnsIn.l0]
    rw [if_pos (by omega), nextSeed_f h0 h1]
    simp only [Option.bind_some]
    have hm0 : 0 ≤ nx s % sumL l := Int.emod_nonneg _ (by omega)
    have hm1 : nx s % sumL l < sumL l := Int.emod_lt_of_pos _ (by omega)
    rw [if_neg (by omega), Int.tmod_eq_emod_of_nonneg hx.1, lotAt_f h hm0 hm1 (by omega)]
    simp only [Option.bind_some]
    rw [if_pos (by omega), w64s (by omega), ih k (i + 1) (nx s) _ (by omega) hx.1 hx.2 (by simp; omega) (by omega)]
    simp [turnsF]
theorem turnsIn_f {k d : Nat} {l : List Int} {s m : Int} (h : okS l = true) (hm : m = d) (h0 : 0 ≤ s) (h1 : s ≤ 65520) (hd : d ≤ 200) (hk : d + 60 < k) : impl_turnsIn.f k l s m = some (turnsF l d s) := by
  have hl := okS_len h
  unfold impl_turnsIn.f
  rw [impl_sumOf_f (okS_big h) (by omega) (by omega)]
  simp only [Option.bind_some]
  have := turnsIn_l0 h m (by omega) d k 0 s [] (by omega) h0 h1 (by simp; omega) hk
  rw [show ((0 : Nat) : Int) = 0 from rfl] at this
  rw [this]; rfl
theorem isSeed_f (s : Int) : impl_isSeed.f s = some (okSeed s) := by
  unfold impl_isSeed.f okSeed; simp only [within_f, Option.bind_some]
def lotRes (l : List Int) (n : Int) : Int × Bool := if okS l && decide (0 ≤ n ∧ n < sumL l) then (lot l n, true) else (0, false)
theorem spec_LotAt_f {k : Nat} {l : List Int} {n : Int} (hn : l.length ≤ 100000000000000) (hk : l.length + 50 < k) : spec_LotAt.f k l n = some (lotRes l n) := by
  unfold spec_LotAt.f lotRes
  simp (disch := omega) only [GoodStakesS_f, Option.bind_some]
  by_cases h : okS l = true
  · have hl := okS_len h
    have hs := okS_sum h
    rw [if_pos h, h, Bool.true_and]
    by_cases h0 : n < 0
    · rw [if_pos h0, if_neg (by simp; omega)]
    · rw [if_neg h0, spec_l1Sum_f (okS_big h) (by omega) (by omega)]
      simp only [Option.bind_some]
      by_cases h1 : n ≥ sumL l
      · rw [if_pos h1, if_neg (by simp; omega)]
      · rw [if_neg h1, l2Lot_f h (by omega) (by omega) (by omega), if_pos (by simp; omega)]; rfl
  · rw [if_neg h]; simp [h]
theorem impl_LotAt_f {k : Nat} {l : List Int} {n : Int} (hn : l.length ≤ 100000000000000) (hk : l.length + 50 < k) : impl_LotAt.f k l n = some (lotRes l n) := by
  unfold impl_LotAt.f lotRes
  simp (disch := omega) only [areStakes_f, Option.bind_some]
  by_cases h : okS l = true
  · have hl := okS_len h
    have hs := okS_sum h
    rw [if_pos h, h, Bool.true_and, impl_sumOf_f (okS_big h) (by omega) (by omega)]
    simp only [Option.bind_some, within_f]
    rw [w64 (n := sumL l - 1) (by omega) (by omega)]
    by_cases h1 : inn n 0 (sumL l - 1) = true
    · have h2 := inn_t.1 h1
      rw [if_pos h1, lotAt_f h (by omega) (by omega) (by omega), if_pos (by simp; omega)]; rfl
    · have h2 := inn_f.1 (Bool.eq_false_iff.2 h1)
      rw [if_neg h1, if_neg (by simp; omega)]
  · rw [if_neg h]; simp [h]
def turnRes (l : List Int) (s t : Int) : Int × Bool := if okS l && okSeed s && inn t 0 100 then (rd (turnsF l (t + 1).toNat s) t, true) else (0, false)
theorem spec_TurnOf_f {k : Nat} {l : List Int} {s t : Int} (hn : l.length ≤ 100000000000000) (hk : l.length + 300 < k) : spec_TurnOf.f k l s t = some (turnRes l s t) := by
  unfold spec_TurnOf.f turnRes
  simp (disch := omega) only [l2Good_f, l1In_f, Option.bind_some]
  by_cases h : (okS l && okSeed s) = true
  · have h' := h
    rw [Bool.and_eq_true] at h'
    have h3 := inn_t.1 (show inn s 1 65520 = true from h'.2)
    rw [if_pos h, h, Bool.true_and]
    by_cases h1 : inn t 0 100 = true
    · have h2 := inn_t.1 h1
      rw [if_pos h1, if_pos h1, w64 (n := t + 1) (by omega) (by omega), l2Turns_f (d := (t + 1).toNat) h'.1 (by omega) (by omega) (by omega) (by omega) (by omega)]
      simp only [Option.bind_some]
      rw [if_pos (by omega), if_pos (by rw [turnsF_len]; omega)]
    · rw [if_neg h1, if_neg h1]
  · rw [if_neg h]; simp [h]
theorem impl_TurnOf_f {k : Nat} {l : List Int} {s t : Int} (hn : l.length ≤ 100000000000000) (hk : l.length + 300 < k) : impl_TurnOf.f k l s t = some (turnRes l s t) := by
  unfold impl_TurnOf.f turnRes
  simp (disch := omega) only [areStakes_f, isSeed_f, within_f, Option.bind_some]
  by_cases h : okS l = true
  · by_cases h0 : okSeed s = true
    · have h3 := inn_t.1 (show inn s 1 65520 = true from h0)
      rw [if_pos h, if_pos h0, h, h0, Bool.true_and, Bool.true_and]
      by_cases h1 : inn t 0 100 = true
      · have h2 := inn_t.1 h1
        rw [if_pos h1, if_pos h1, w64 (n := t + 1) (by omega) (by omega), turnsIn_f (d := (t + 1).toNat) h (by omega) (by omega) (by omega) (by omega) (by omega)]
        simp only [Option.bind_some]
        rw [if_pos (by omega), if_pos (by rw [turnsF_len]; omega)]
      · rw [if_neg h1, if_neg h1]
    · rw [if_pos h, if_neg h0]; simp [h0]
  · rw [if_neg h]; simp [h]
def turnsRes (l : List Int) (s m : Int) : List Int × Bool := if okS l && okSeed s && inn m 0 100 then (turnsF l m.toNat s, true) else ([], false)
theorem turnsRes_len (l : List Int) (s m : Int) : (turnsRes l s m).1.length ≤ 100 := by
  unfold turnsRes
  split
  · rename_i h
    rw [Bool.and_eq_true] at h
    have := inn_t.1 h.2
    show (turnsF l m.toNat s).length ≤ 100
    rw [turnsF_len]; omega
  · simp
theorem spec_TurnsIn_f {k : Nat} {l : List Int} {s t : Int} (hn : l.length ≤ 100000000000000) (hk : l.length + 300 < k) : spec_TurnsIn.f k l s t = some (turnsRes l s t) := by
  unfold spec_TurnsIn.f turnsRes
  simp (disch := omega) only [l2Good_f, l1In_f, Option.bind_some]
  by_cases h : (okS l && okSeed s) = true
  · have h' := h
    rw [Bool.and_eq_true] at h'
    have h3 := inn_t.1 (show inn s 1 65520 = true from h'.2)
    rw [if_pos h, h, Bool.true_and]
    by_cases h1 : inn t 0 100 = true
    · have h2 := inn_t.1 h1
      rw [if_pos h1, if_pos h1, l2Turns_f (d := t.toNat) h'.1 (by omega) (by omega) (by omega) (by omega) (by omega)]; rfl
    · rw [if_neg h1, if_neg h1]
  · rw [if_neg h]; simp [h]
theorem impl_TurnsIn_f {k : Nat} {l : List Int} {s t : Int} (hn : l.length ≤ 100000000000000) (hk : l.length + 300 < k) : impl_TurnsIn.f k l s t = some (turnsRes l s t) := by
  unfold impl_TurnsIn.f turnsRes
  simp (disch := omega) only [areStakes_f, isSeed_f, within_f, Option.bind_some]
  by_cases h : okS l = true
  · by_cases h0 : okSeed s = true
    · have h3 := inn_t.1 (show inn s 1 65520 = true from h0)
      rw [if_pos h, if_pos h0, h, h0, Bool.true_and, Bool.true_and]
      by_cases h1 : inn t 0 100 = true
      · have h2 := inn_t.1 h1
        rw [if_pos h1, if_pos h1, turnsIn_f (d := t.toNat) h (by omega) (by omega) (by omega) (by omega) (by omega)]; rfl
      · rw [if_neg h1, if_neg h1]
    · rw [if_pos h, if_neg h0]; simp [h0]
  · rw [if_neg h]; simp [h]
/-- The first place of a number, or -1. -/
def idxF (l : List Int) (x : Int) : Nat → Nat → Int
  | _, 0 => -1
  | i, d + 1 => if rd l i = x then (i : Int) else idxF l x (i + 1) d
def idxOf (l : List Int) (x : Int) : Int := idxF l x 0 l.length
def untilRes (l : List Int) (s w : Int) : Int × Bool := if okS l && okSeed s && inn w 0 ((l.length : Int) - 1) && decide (0 ≤ idxOf (turnsF l 101 s) w) then (idxOf (turnsF l 101 s) w, true) else (0, false)
def found (r : Int) : Int × Bool := if 0 ≤ r then (r, true) else (0, false)
theorem until_l0 (l : List Int) (x : Int) (hn : l.length ≤ 100000000) (d : Nat) : ∀ (k i : Nat), i + d = l.length → d < k → spec_SlotsUntil.l0 k x l (l.length : Int) i = some (found (idxF l x i d)) := by
  induction d with
  | zero =>
    intro k i hi' hk
    obtain ⟨k, rfl⟩ := step_k hk
    simp only [spec_SlotsUntil.l0]; rw [if_neg (by omega)]; rfl
  | succ d ih =>
    intro k i hi' hk
    obtain ⟨k, rfl⟩ := step_k hk
    simp only [spec_SlotsUntil.l0]
    have e : idxF l x i (d + 1) = if rd l i = x then (i : Int) else idxF l x (i + 1) d := rfl
    rw [if_pos (by omega), if_pos (by omega), if_pos (by omega), w64s (by omega), e]
    by_cases h : rd l i = x
    · rw [if_pos h, if_pos h]; simp [found]
    · rw [if_neg h, if_neg h, ih k (i + 1) (by omega) (by omega)]
theorem Index_l0 (l : List Int) (x : Int) (hn : l.length ≤ 100000000) (d : Nat) : ∀ (k i : Nat), i + d = l.length → d < k → slices_Index_int_int.l0 k l x (l.length : Int) i = some (idxF l x i d) := by
  induction d with
  | zero =>
    intro k i hi' hk
    obtain ⟨k, rfl⟩ := step_k hk
    simp only [slices_Index_int_int.l0, idxF]; rw [if_neg (by omega)]
  | succ d ih =>
    intro k i hi' hk
    obtain ⟨k, rfl⟩ := step_k hk
    simp only [slices_Index_int_int.l0, idxF]
    rw [if_pos (by omega), if_pos (by omega), if_pos (by omega), w64s (by omega)]
    by_cases h : rd l i = x
    · rw [if_pos h, if_pos h.symm]
    · rw [if_neg h, if_neg (fun h' => h h'.symm), ih k (i + 1) (by omega) (by omega)]
theorem Index_f {k : Nat} {l : List Int} {x : Int} (hn : l.length ≤ 100000000) (hk : l.length < k) : slices_Index_int_int.f k l x = some (idxOf l x) := by
  unfold slices_Index_int_int.f
  exact Index_l0 l x hn l.length k 0 (by omega) hk
theorem spec_SlotsUntil_f {k : Nat} {l : List Int} {s w : Int} (hn : l.length ≤ 100000000000000) (hk : l.length + 600 < k) : spec_SlotsUntil.f k l s w = some (untilRes l s w) := by
  obtain ⟨k, rfl⟩ := step_k hk
  unfold spec_SlotsUntil.f untilRes
  simp (disch := omega) only [l2Good_f, l1In_f, Option.bind_some, spec_SlotsUntil.j0]
  rw [w64 (n := (l.length : Int) - 1) (by omega) (by omega)]
  by_cases h : (okS l && okSeed s) = true
  · have h' := h
    rw [Bool.and_eq_true] at h'
    have h3 := inn_t.1 (show inn s 1 65520 = true from h'.2)
    rw [if_pos h, h, Bool.true_and]
    by_cases h1 : inn w 0 ((l.length : Int) - 1) = true
    · rw [h1]
      simp only [Bool.not_true, Bool.false_eq_true, if_false, Bool.true_and]
      rw [l2Turns_f (d := 101) h'.1 (by omega) (by omega) (by omega) (by omega) (by omega)]
      simp only [Option.bind_some]
      have := until_l0 (turnsF l 101 s) w (by rw [turnsF_len]; omega) (turnsF l 101 s).length k 0 (by omega) (by rw [turnsF_len]; omega)
      rw [show ((0 : Nat) : Int) = 0 from rfl] at this
      rw [this]
      unfold found idxOf
      by_cases h9 : 0 ≤ idxF (turnsF l 101 s) w 0 (turnsF l 101 s).length <;> simp [h9]
    · simp [h1]
  · rw [if_neg h]; simp [h]
theorem impl_SlotsUntil_f {k : Nat} {l : List Int} {s w : Int} (hn : l.length ≤ 100000000000000) (hk : l.length + 600 < k) : impl_SlotsUntil.f k l s w = some (untilRes l s w) := by
  obtain ⟨k, rfl⟩ := step_k hk
  unfold impl_SlotsUntil.f untilRes
  simp (disch := omega) only [areStakes_f, isSeed_f, within_f, Option.bind_some, impl_SlotsUntil.j0]
  rw [w64 (n := (l.length : Int) - 1) (by omega) (by omega)]
  by_cases h : okS l = true
  · by_cases h0 : okSeed s = true
    · have h3 := inn_t.1 (show inn s 1 65520 = true from h0)
      rw [if_pos h, if_pos h0, h, h0, Bool.true_and, Bool.true_and]
      by_cases h1 : inn w 0 ((l.length : Int) - 1) = true
      · rw [h1]
        simp only [Bool.not_true, Bool.false_eq_true, if_false, Bool.true_and]
        rw [turnsIn_f (d := 101) h (by omega) (by omega) (by omega) (by omega) (by omega)]
        simp only [Option.bind_some]
        rw [Index_f (by rw [turnsF_len]; omega) (by rw [turnsF_len]; omega)]
        simp only [Option.bind_some]
        by_cases h2 : idxOf (turnsF l 101 s) w < 0
        · rw [if_pos h2, if_neg (by simp; omega)]
        · rw [if_neg h2, if_pos (by simp; omega)]
      · simp [h1]
    · rw [if_pos h, if_neg h0]; simp [h0]
  · rw [if_neg h]; simp [h]
theorem u8_bd {l : List Int} (h : ∀ v ∈ l, (Lit.int .u8 v).wf = true) : ∀ v ∈ l, 0 ≤ v ∧ v ≤ 255 := by
  intro v hv
  have := h v hv
  simp [Lit.wf, IntKind.min, IntKind.max, IntKind.signed, IntKind.bits] at this
  omega
theorem wraps_u64 (n : Int) (h₀ : 0 ≤ n) (h₁ : n < 2 ^ 63) : IntKind.u64.wrap n = n := by
  simp [IntKind.wrap, IntKind.bits, IntKind.signed]; omega
theorem wrapu_nn (n : Int) : 0 ≤ IntKind.u64.wrap n ∧ IntKind.u64.wrap n < 2 ^ 64 := by
  simp [IntKind.wrap, IntKind.bits, IntKind.signed]; omega
theorem and255 {x : Int} (h0 : 0 ≤ x) (h1 : x < 2 ^ 63) : 0 ≤ Go.bits .and .u64 x 255 ∧ Go.bits .and .u64 x 255 ≤ 255 := by
  obtain ⟨a, rfl⟩ := Int.eq_ofNat_of_zero_le h0
  have ha : a < 2 ^ 63 := by exact_mod_cast h1
  have e := (bits_nat .u64 63 (by decide) wraps_u64 a 255 ha (by decide)).1
  rw [show ((255 : Nat) : Int) = 255 from rfl] at e
  rw [e]
  have : a &&& 255 ≤ 255 := Nat.and_le_right
  omega
theorem next_ex {l : List Int} (hl : ∀ v ∈ l, 0 ≤ v ∧ v ≤ 255) (hn : l.length ≤ 1000000000000000) (n s : Int) (h0 : 0 ≤ n) (h1 : n ≤ 1000000000000000) :
    ∃ b s', spec_l1Cur_next.f l n s = some (b, n + 1, s') ∧ 0 ≤ b ∧ b ≤ 255 := by
  have e : wrap64 (n + 1) = n + 1 := w64 (by omega) (by omega)
  have sm : ∀ q : Int, 0 ≤ wrap64 (Go.bits .and .u64 (IntKind.u64.wrap q / 1099511627776) 255) ∧ wrap64 (Go.bits .and .u64 (IntKind.u64.wrap q / 1099511627776) 255) ≤ 255 := by
    intro q
    have h2 := wrapu_nn q
    have h3 := and255 (x := IntKind.u64.wrap q / 1099511627776) (by omega) (by omega)
    rw [w64 (by omega) (by omega)]; exact h3
  unfold spec_l1Cur_next.f
  rw [e]
  by_cases h : n < (l.length : Int)
  · have hm := hl _ (rd_mem l n.toNat (by omega))
    rw [show ((n.toNat : Nat) : Int) = n by omega] at hm
    rw [if_pos h, if_pos h0, if_pos (by omega), w64 (n := rd l n) (by omega) (by omega)]
    exact ⟨_, _, rfl, hm.1, hm.2⟩
  · rw [if_neg h, if_neg (by omega)]
    exact ⟨_, _, rfl, (sm _).1, (sm _).2⟩
theorem pick_ex {l : List Int} (hl : ∀ v ∈ l, 0 ≤ v ∧ v ≤ 255) (hn : l.length ≤ 1000000000000000) (n s q : Int) (h0 : 0 ≤ n) (h1 : n ≤ 999999999999999) :
    ∃ b n' s', spec_l1Cur_pick.f l n s q = some (b, n', s') ∧ n ≤ n' ∧ n' ≤ n + 2 ∧ 0 ≤ b ∧ (b < q ∨ b = 0) := by
  unfold spec_l1Cur_pick.f
  by_cases h : q ≤ 1
  · rw [if_pos h]; exact ⟨_, _, _, rfl, by omega, by omega, by omega, .inr rfl⟩
  · obtain ⟨b, s1, e1, hb0, hb1⟩ := next_ex hl hn n s h0 (by omega)
    rw [if_neg h, e1]
    simp only [Option.bind_some]
    by_cases h2 : q > 200
    · obtain ⟨b2, s2, e2, hc0, hc1⟩ := next_ex hl hn (n + 1) s1 (by omega) (by omega)
      rw [if_pos h2, e2]
      simp only [Option.bind_some]
      rw [if_neg (by omega), w64 (n := b * 256) (by omega) (by omega), w64 (n := b * 256 + b2) (by omega) (by omega)]
      refine ⟨_, _, _, rfl, by omega, by omega, Int.tmod_nonneg _ (by omega), .inl (Int.tmod_lt_of_pos _ (by omega))⟩
    · rw [if_neg h2, if_neg (by omega)]
      exact ⟨_, _, _, rfl, by omega, by omega, Int.tmod_nonneg _ (by omega), .inl (Int.tmod_lt_of_pos _ (by omega))⟩
theorem among_ex {l : List Int} (hl : ∀ v ∈ l, 0 ≤ v ∧ v ≤ 255) (hn : l.length ≤ 1000000000000000) (n s : Int) (xs : List Int) (hx : 0 < xs.length) (h0 : 0 ≤ n) (h1 : n ≤ 999999999999999) :
    ∃ b n' s', spec_l1Cur_among.f l n s xs = some (b, n', s') ∧ n ≤ n' ∧ n' ≤ n + 2 ∧ b ∈ xs := by
  unfold spec_l1Cur_among.f
  obtain ⟨b, n1, s1, e1, h2, h3, h4, h5⟩ := pick_ex hl hn n s (xs.length : Int) h0 h1
  rw [e1]
  simp only [Option.bind_some]
  rw [if_pos h4, if_pos (by omega)]
  refine ⟨_, _, _, rfl, h2, h3, ?_⟩
  have := rd_mem xs b.toNat (by omega)
  rwa [show ((b.toNat : Nat) : Int) = b by omega] at this
theorem one_ex {l : List Int} (hl : ∀ v ∈ l, 0 ≤ v ∧ v ≤ 255) (hn : l.length ≤ 1000000000000000) (n s q : Int) (h0 : 0 ≤ n) (h1 : n ≤ 999999999999999) :
    ∃ b n' s', spec_l1Cur_one.f l n s q = some (b, n', s') ∧ n ≤ n' ∧ n' ≤ n + 2 := by
  obtain ⟨b, n1, s1, e1, h2, h3, _⟩ := pick_ex hl hn n s q h0 h1
  unfold spec_l1Cur_one.f
  rw [e1]
  exact ⟨_, _, _, rfl, h2, h3⟩
theorem stakes_l0 {l : List Int} (hl : ∀ v ∈ l, 0 ≤ v ∧ v ≤ 255) (hn : l.length ≤ 1000000000000000) : ∀ (d k : Nat) (acc : List Int) (n s : Int), acc.length + d ≤ 1000000 → (∀ x ∈ acc, 0 ≤ x ∧ x ≤ 1001) → d < k → 0 ≤ n → n + 2 * d + 10 ≤ 999999999999999 → ∃ st n' s', spec_l1Cur_stakes.l0 k acc (d : Int) l n s = some (st, n', s') ∧ n ≤ n' ∧ n' ≤ n + 2 * d + 4 ∧ st.length = acc.length + d ∧ ∀ x ∈ st, 0 ≤ x ∧ x ≤ 1001 := by
  intro d
  induction d with
  | zero =>
    intro k acc n s ha hac hk h0 h1
    obtain ⟨k, rfl⟩ := step_k hk
    simp only [spec_l1Cur_stakes.l0]
    rw [if_neg (by omega)]
    by_cases hc : (acc.length : Int) > 0
    · obtain ⟨b, n1, s1, e1, h2, h3⟩ := one_ex hl hn n s 20 h0 (by omega)
      rw [if_pos hc, e1]
      simp only [Option.bind_some]
      by_cases hb : b = true
      · obtain ⟨c, n2, s2, e2, h4, h5, h10⟩ := among_ex hl hn n1 s1 [0, 1000, 1001] (by decide) (by omega) (by omega)
        rw [if_pos hb, e2]
        simp only [Option.bind_some]
        rw [if_pos hc]
        refine ⟨_, _, _, rfl, by omega, by omega, by simp, fun x hx => ?_⟩
        rcases List.mem_or_eq_of_mem_set hx with h11 | h11
        · exact hac x h11
        · rw [h11]; simp at h10; omega
      · rw [if_neg hb]
        exact ⟨_, _, _, rfl, by omega, by omega, by simp, hac⟩
    · rw [if_neg hc]
      exact ⟨_, _, _, rfl, by omega, by omega, by simp, hac⟩
  | succ d ih =>
    intro k acc n s ha hac hk h0 h1
    obtain ⟨k, rfl⟩ := step_k hk
    obtain ⟨b, n1, s1, e1, h2, h3, hb1, hb2⟩ := pick_ex hl hn n s 9 h0 (by omega)
    simp only [spec_l1Cur_stakes.l0]
    rw [if_pos (by omega), e1]
    simp only [Option.bind_some]
    rw [if_pos (by omega), w64 (n := ((d + 1 : Nat) : Int) - 1) (by omega) (by omega), show ((d + 1 : Nat) : Int) - 1 = (d : Int) by omega]
    have hac' : ∀ x ∈ acc ++ [wrap64 (1 + b)], 0 ≤ x ∧ x ≤ 1001 := by
      intro x hx
      rcases List.mem_append.1 hx with h7 | h7
      · exact hac x h7
      · rw [List.mem_singleton.1 h7, w64 (by omega) (by omega)]; omega
    obtain ⟨st, n2, s2, e2, h4, h5, h6, h8⟩ := ih k (acc ++ [wrap64 (1 + b)]) n1 s1 (by simp; omega) hac' (by omega) (by omega) (by omega)
    rw [e2]
    exact ⟨_, _, _, rfl, by omega, by omega, by rw [h6]; simp; omega, h8⟩
theorem stakes_ex {l : List Int} (hl : ∀ v ∈ l, 0 ≤ v ∧ v ≤ 255) (hn : l.length ≤ 1000000000000000) (k : Nat) (n s : Int) (h0 : 0 ≤ n) (h1 : n ≤ 99999999999999) (hk : 50 < k) : ∃ st n' s', spec_l1Cur_stakes.f k l n s = some (st, n', s') ∧ n ≤ n' ∧ n' ≤ n + 100 ∧ st.length ≤ 11 ∧ ∀ x ∈ st, 0 ≤ x ∧ x ≤ 1001 := by
  obtain ⟨k, rfl⟩ : ∃ q, k = q + 1 := ⟨k - 1, by omega⟩
  obtain ⟨b, n1, s1, e1, h2, h3, h4, h5⟩ := pick_ex hl hn n s 6 h0 (by omega)
  obtain ⟨b2, n2, s2, e2, h6, h7⟩ := one_ex hl hn n1 s1 40 (by omega) (by omega)
  unfold spec_l1Cur_stakes.f
  rw [e1]
  simp only [Option.bind_some]
  rw [e2]
  simp only [Option.bind_some, spec_l1Cur_stakes.j0]
  have key : ∀ (x n : Int) (s : Int), 0 ≤ x → x ≤ 11 → 0 ≤ n → n ≤ 199999999999999 → ∃ st n' s', spec_l1Cur_stakes.l0 k ([] : List Int) x l n s = some (st, n', s') ∧ n ≤ n' ∧ n' ≤ n + 30 ∧ st.length ≤ 11 ∧ ∀ x ∈ st, 0 ≤ x ∧ x ≤ 1001 := by
    intro x n s hx hx2 hn0 hn1
    obtain ⟨st, n', s', e, h8, h9, h10, h14⟩ := stakes_l0 hl hn x.toNat k [] n s (by simp; omega) (by simp) (by omega) hn0 (by omega)
    rw [show ((x.toNat : Nat) : Int) = x by omega] at e
    exact ⟨st, n', s', e, h8, by omega, by simp at h10; omega, h14⟩
  by_cases hb : b2 = true
  · obtain ⟨c, n3, s3, e3, h8, h9, h10⟩ := among_ex hl hn n2 s2 [0, 10, 11] (by decide) (by omega) (by omega)
    rw [if_pos hb, e3]
    simp only [Option.bind_some]
    have hc : 0 ≤ c ∧ c ≤ 11 := by simp at h10; omega
    obtain ⟨st, n', s', e, h11, h12, h13⟩ := key c n3 s3 hc.1 hc.2 (by omega) (by omega)
    exact ⟨st, n', s', e, by omega, by omega, h13⟩
  · rw [if_neg hb, w64 (n := 1 + b) (by omega) (by omega)]
    obtain ⟨st, n', s', e, h11, h12, h13⟩ := key (1 + b) n2 s2 (by omega) (by omega) (by omega) (by omega)
    exact ⟨st, n', s', e, by omega, by omega, h13⟩
theorem sameInts_l0 (l : List Int) (hn : l.length ≤ 100000000000000) (d : Nat) : ∀ (k i : Nat), i + d = l.length → d < k → laws_sameInts.l0 k l l (l.length : Int) i = some true := by
  induction d with
  | zero =>
    intro k i hi hk
    obtain ⟨k, rfl⟩ := step_k hk
    simp only [laws_sameInts.l0]; rw [if_neg (by omega)]
  | succ d ih =>
    intro k i hi hk
    obtain ⟨k, rfl⟩ := step_k hk
    simp only [laws_sameInts.l0]
    rw [if_pos (by omega), if_pos (by omega), if_pos (by omega), if_pos (by omega), if_true, w64s (by omega)]
    exact ih k (i + 1) (by omega) (by omega)
theorem sameInts_f {k : Nat} {l : List Int} (hn : l.length ≤ 100000000000000) (hk : l.length < k) : laws_sameInts.f k l l = some true := by
  unfold laws_sameInts.f
  rw [if_pos rfl]
  exact sameInts_l0 l hn l.length k 0 (by omega) hk
theorem numberOf_l0 (l : List Int) (hl : ∀ v ∈ l, 0 ≤ v ∧ v ≤ 255) (hn : l.length ≤ 100000000000000) (d : Nat) : ∀ (k i : Nat) (x : Int), 0 ≤ x → x < 1000003 → i + d = l.length → d < k → ∃ y, laws_numberOf.l0 k x l (l.length : Int) i = some y ∧ 0 ≤ y ∧ y < 1000003 := by
  induction d with
  | zero =>
    intro k i x h0 h1 hi hk
    obtain ⟨k, rfl⟩ := step_k hk
    simp only [laws_numberOf.l0]; rw [if_neg (by omega)]
    exact ⟨x, rfl, h0, h1⟩
  | succ d ih =>
    intro k i x h0 h1 hi hk
    obtain ⟨k, rfl⟩ := step_k hk
    have hx := hl _ (rd_mem l i (by omega))
    simp only [laws_numberOf.l0]
    rw [if_pos (by omega), if_pos (by omega), if_pos (by omega), w64s (by omega), w64 (n := rd l i) (by omega) (by omega), w64 (n := 31 * x) (by omega) (by omega), w64 (n := 31 * x + rd l i) (by omega) (by omega)]
    exact ih k (i + 1) _ (Int.tmod_nonneg _ (by omega)) (Int.tmod_lt_of_pos _ (by omega)) (by omega) (by omega)
theorem numberOf_ex {k : Nat} {l : List Int} (hl : ∀ v ∈ l, 0 ≤ v ∧ v ≤ 255) (hn : l.length ≤ 100000000000000) (hk : l.length < k) : ∃ y, laws_numberOf.f k l = some y ∧ 0 ≤ y ∧ y < 1000003 := by
  unfold laws_numberOf.f
  exact numberOf_l0 l hl hn l.length k 0 0 (by omega) (by omega) (by omega) hk
theorem Least_f (a b : Int) : spec_l1Least.f a b = some (mn a b) := by
  unfold spec_l1Least.f mn
  by_cases h : a < b
  · rw [if_pos h, if_neg (by omega)]
  · rw [if_neg h]
    by_cases h2 : b < a
    · rw [if_pos h2]
    · rw [if_neg h2]; congr 1; omega
theorem rd_succ (x : Int) (r : List Int) (i : Nat) : rd (x :: r) ((i + 1 : Nat) : Int) = rd r (i : Int) := by
  rw [rd_eq, rd_eq]; rfl
theorem turnsF_rd (l : List Int) : ∀ (i m m' : Nat) (s : Int), i < m → i < m' → rd (turnsF l m s) (i : Int) = rd (turnsF l m' s) (i : Int) := by
  intro i
  induction i with
  | zero =>
    intro m m' s h h'
    obtain ⟨m, rfl⟩ := step_k h
    obtain ⟨m', rfl⟩ := step_k h'
    rfl
  | succ i ih =>
    intro m m' s h h'
    obtain ⟨m, rfl⟩ := step_k h
    obtain ⟨m', rfl⟩ := step_k h'
    simp only [turnsF]
    rw [rd_succ, rd_succ]
    exact ih m m' _ (by omega) (by omega)
theorem lotF_bd {l : List Int} : ∀ (d i : Nat) (n : Int), i + d = l.length → 0 ≤ n → n < sumL (l.drop i) → (i : Int) ≤ lotF l n i d ∧ lotF l n i d < l.length := by
  intro d
  induction d with
  | zero => intro i n hi h0 h1; rw [List.drop_eq_nil_of_le (by omega)] at h1; simp [sumL] at h1; omega
  | succ d ih =>
    intro i n hi h0 h1
    rw [drop_rd l i (by omega)] at h1
    simp only [sumL] at h1
    simp only [lotF]
    by_cases h : n < rd l i
    · rw [if_pos h]; omega
    · rw [if_neg h]
      have := ih (i + 1) (n - rd l i) (by omega) (by omega) (by omega)
      omega
theorem lot_bd {l : List Int} {n : Int} (h0 : 0 ≤ n) (h1 : n < sumL l) : 0 ≤ lot l n ∧ lot l n < l.length := by
  have := lotF_bd (l := l) l.length 0 n (by omega) h0 (by simpa using h1)
  unfold lot; omega
theorem lotF_iff {l : List Int} (hl : ∀ x ∈ l, 1 ≤ x ∧ x ≤ 1000) : ∀ (d i : Nat) (n : Int), i + d = l.length → 0 ≤ n → n < sumL (l.drop i) → ∀ w : Nat, i ≤ w → w < l.length → (lotF l n i d = (w : Int) ↔ sumL ((l.drop i).take (w - i)) ≤ n ∧ n < sumL ((l.drop i).take (w - i)) + rd l w) := by
  intro d
  induction d with
  | zero => intro i n hi h0 h1 w hw1 hw2; omega
  | succ d ih =>
    intro i n hi h0 h1 w hw1 hw2
    have hd := drop_rd l i (by omega)
    rw [hd] at h1 ⊢
    simp only [sumL] at h1
    simp only [lotF]
    by_cases e : w = i
    · subst e
      rw [Nat.sub_self, List.take_zero]
      simp only [sumL]
      by_cases h : n < rd l w
      · rw [if_pos h]; simp; omega
      · rw [if_neg h]
        have := lotF_bd (l := l) d (w + 1) (n - rd l w) (by omega) (by omega) (by omega)
        constructor
        · intro h2; omega
        · intro h2; omega
    · rw [show w - i = (w - (i + 1)) + 1 by omega, List.take_succ_cons]
      simp only [sumL]
      have hnn := sumL_bd (l := (l.drop (i + 1)).take (w - (i + 1))) (M := 1000) fun x hx => (by have := hl x (List.mem_of_mem_drop (List.mem_of_mem_take hx)); omega)
      by_cases h : n < rd l i
      · rw [if_pos h]
        constructor
        · intro h2; omega
        · intro h2; omega
      · rw [if_neg h, ih (i + 1) (n - rd l i) (by omega) (by omega) (by omega) w (by omega) hw2]
        omega
theorem lot_iff {l : List Int} (hl : ∀ x ∈ l, 1 ≤ x ∧ x ≤ 1000) {n : Int} (h0 : 0 ≤ n) (h1 : n < sumL l) (w : Nat) (hw : w < l.length) : lot l n = (w : Int) ↔ sumL (l.take w) ≤ n ∧ n < sumL (l.take w) + rd l w := by
  have := lotF_iff hl l.length 0 n (by omega) h0 (by simpa using h1) w (by omega) hw
  rw [List.drop_zero, Nat.sub_zero] at this
  exact this
theorem pre_le {l : List Int} (hl : ∀ x ∈ l, 1 ≤ x ∧ x ≤ 1000) (w : Nat) (hw : w < l.length) : 0 ≤ sumL (l.take w) ∧ sumL (l.take w) + rd l w ≤ sumL l := by
  have h1 := sumL_bd (l := l.take w) (M := 1000) fun x hx => (by have := hl x (List.mem_of_mem_take hx); omega)
  have h2 := sumL_bd (l := l.drop (w + 1)) (M := 1000) fun x hx => (by have := hl x (List.mem_of_mem_drop hx); omega)
  have h3 := sumL_append (l.take w) (l.drop w)
  rw [List.take_append_drop, drop_rd l w hw] at h3
  simp only [sumL] at h3
  omega
theorem turnsF_bd {l : List Int} (h : okS l = true) : ∀ m s, ∀ x ∈ turnsF l m s, 0 ≤ x ∧ x < l.length := by
  have hs := okS_sum h
  intro m
  induction m with
  | zero => intro s x hx; simp [turnsF] at hx
  | succ m ih =>
    intro s x hx
    simp only [turnsF, List.mem_cons] at hx
    rcases hx with rfl | hx
    · exact lot_bd (Int.emod_nonneg _ (by omega)) (Int.emod_lt_of_pos _ (by omega))
    · exact ih _ x hx
theorem idx_first (l : List Int) (x : Int) : ∀ (d i j : Nat), i ≤ j → j < i + d → rd l j = x → (i : Int) ≤ idxF l x i d ∧ idxF l x i d ≤ j ∧ rd l (idxF l x i d) = x := by
  intro d
  induction d with
  | zero => intro i j h1 h2; omega
  | succ d ih =>
    intro i j h1 h2 h3
    simp only [idxF]
    by_cases e : rd l i = x
    · rw [if_pos e]; exact ⟨by omega, by omega, e⟩
    · rw [if_neg e]
      have hne : j ≠ i := fun h => e (h ▸ h3)
      have := ih (i + 1) j (by omega) (by omega) h3
      exact ⟨by omega, this.2.1, this.2.2⟩
theorem seedOf_ex {l : List Int} (hl : ∀ v ∈ l, 0 ≤ v ∧ v ≤ 255) (hn : l.length ≤ 1000000000000000) (n s : Int) (h0 : 0 ≤ n) (h1 : n ≤ 99999999999999) : ∃ b n' s', spec_l1Cur_seedOf.f l n s = some (b, n', s') ∧ n ≤ n' ∧ n' ≤ n + 6 := by
  obtain ⟨a, n1, s1, e1, h2, h3, _⟩ := pick_ex hl hn n s 250 h0 (by omega)
  obtain ⟨b, n2, s2, e2, h4, h5, _⟩ := pick_ex hl hn n1 s1 250 (by omega) (by omega)
  obtain ⟨c, n3, s3, e3, h6, h7, _⟩ := among_ex hl hn n2 s2 [0, 1, 7, 65520, 65521, wrap64 (1 + (wrap64 (a * 250))), wrap64 (1 + (wrap64 (b * 250)))] (by simp) (by omega) (by omega)
  unfold spec_l1Cur_seedOf.f
  rw [e1]; simp only [Option.bind_some]
  rw [e2]; simp only [Option.bind_some]
  rw [e3]
  exact ⟨c, n3, s3, rfl, by omega, by omega⟩
theorem drawTurn_ex {l : List Int} (hl : ∀ v ∈ l, 0 ≤ v ∧ v ≤ 255) (hn : l.length ≤ 1000000000000000) (k : Nat) (hk : 50 < k) : ∃ st s t, spec_DrawTurnOf.f k l = some (st, s, t) ∧ st.length ≤ 11 := by
  obtain ⟨st, n1, s1, e1, h2, h3, h4, _⟩ := stakes_ex hl hn k 0 0 (by omega) (by omega) hk
  obtain ⟨s, n2, s2, e2, h5, h6⟩ := seedOf_ex hl hn n1 s1 (by omega) (by omega)
  obtain ⟨t, n3, s3, e3, h7, h8, _⟩ := among_ex hl hn n2 s2 [(-1), 0, 1, 9, 100, 101] (by simp) (by omega) (by omega)
  unfold spec_DrawTurnOf.f
  rw [e1]; simp only [Option.bind_some]
  rw [e2]; simp only [Option.bind_some]
  rw [e3]
  exact ⟨_, _, _, rfl, h4⟩
def nextRes (s : Int) : Int × Bool := if okSeed s then (nx s, true) else (0, false)
theorem impl_NextSeed_f (s : Int) : impl_NextSeed.f s = some (nextRes s) := by
  unfold impl_NextSeed.f nextRes
  rw [isSeed_f]; simp only [Option.bind_some]
  by_cases h : okSeed s = true
  · have h3 := inn_t.1 (show inn s 1 65520 = true from h)
    rw [if_pos h, if_pos h, nextSeed_f (by omega) (by omega)]; rfl
  · rw [if_neg h, if_neg h]
theorem spec_NextSeed_f (s : Int) : spec_NextSeed.f s = some (nextRes s) := by
  unfold spec_NextSeed.f nextRes spec_l2Seed.f spec_l2Next.f
  rw [l1In_f]; simp only [Option.bind_some]
  by_cases h : okSeed s = true
  · have h3 := inn_t.1 (show inn s 1 65520 = true from h)
    have h4 : inn s 1 65520 = true := h
    rw [if_pos h4, if_pos h, w64 (by omega) (by omega), Int.tmod_eq_emod_of_nonneg (by omega)]; rfl
  · have h4 : ¬ inn s 1 65520 = true := h
    rw [if_neg h4, if_neg h]
theorem nx_pos {s : Int} (h : okSeed s = true) : nx s > 0 := by
  have h3 := inn_t.1 (show inn s 1 65520 = true from h)
  have h4 := (nx_bd s).1
  by_cases h5 : nx s = 0
  · exfalso
    unfold nx at h5
    obtain ⟨q, hq⟩ := Int.dvd_of_emod_eq_zero h5
    have h6 : 32236 * (17364 * s) = 32236 * (65521 * q) := by rw [hq]
    rw [← Int.mul_assoc, ← Int.mul_assoc, show (32236 : Int) * 17364 = 65521 * 8543 + 1 from by decide, show (32236 : Int) * 65521 = 65521 * 32236 from by decide, Int.add_mul, Int.one_mul, Int.mul_assoc, Int.mul_assoc] at h6
    have h7 : s = 65521 * (32236 * q - 8543 * s) := by rw [Int.mul_sub, ← h6]; omega
    generalize 32236 * q - 8543 * s = z at h7
    omega
  · omega
theorem next_pos {b : Int} (h : (nextRes b).2 = true) : (nextRes b).1 > 0 := by
  unfold nextRes at h ⊢
  by_cases h1 : okSeed b = true
  · rw [if_pos h1]; exact nx_pos h1
  · rw [if_neg h1] at h; exact absurd h (by decide)
theorem bind3 {α β : Type} {x : Option α} {f : α → Option β} {a : α} {b : Option β} (h : x = some a) (h2 : f a = b) : x.bind f = b := by rw [h]; exact h2
theorem drawSlots_ex {l : List Int} (hl : ∀ v ∈ l, 0 ≤ v ∧ v ≤ 255) (hn : l.length ≤ 1000000000000000) (k : Nat) (hk : 50 < k) : ∃ st s t, spec_DrawSlotsUntil.f k l = some (st, s, t) ∧ st.length ≤ 11 := by
  obtain ⟨st, n1, s1, e1, h2, h3, h4, _⟩ := stakes_ex hl hn k 0 0 (by omega) (by omega) hk
  obtain ⟨s, n2, s2, e2, h5, h6⟩ := seedOf_ex hl hn n1 s1 (by omega) (by omega)
  obtain ⟨t, n3, s3, e3, _⟩ := pick_ex hl hn n2 s2 (wrap64 ((st.length : Int) + 2)) (by omega) (by omega)
  have e : spec_DrawSlotsUntil.f k l = some (st, s, wrap64 (t - 1)) := by
    unfold spec_DrawSlotsUntil.f
    refine bind3 e1 ?_
    refine bind3 e2 ?_
    exact bind3 e3 rfl
  exact ⟨st, s, wrap64 (t - 1), e, h4⟩
theorem T_j6 {k : Nat} {l : List Int} (hl : ∀ v ∈ l, 0 ≤ v ∧ v ≤ 255) (hn : l.length ≤ 1048576) (hk : 2000 < k) : laws_FnTurns.j6 k l = some true := by
  obtain ⟨k, rfl⟩ : ∃ q, k = q + 1 := ⟨k - 1, by omega⟩
  obtain ⟨st, s, t, ed, hst⟩ := drawTurn_ex hl (by omega) k (by omega)
  obtain ⟨st2, s2, w, ed2, hst2⟩ := drawSlots_ex hl (by omega) k (by omega)
  obtain ⟨b, n4, s4, e4, _, _⟩ := seedOf_ex hl (by omega) 0 0 (by omega) (by omega)
  have e5 : spec_DrawNextSeed.f l = some b := by unfold spec_DrawNextSeed.f; rw [e4]; rfl
  simp only [laws_FnTurns.j6]
  rw [ed]; simp only [Option.bind_some]
  rw [impl_TurnOf_f (by omega) (by omega), spec_TurnOf_f (by omega) (by omega)]; simp only [Option.bind_some]
  rw [ed2]; simp only [Option.bind_some]
  rw [impl_SlotsUntil_f (by omega) (by omega), spec_SlotsUntil_f (by omega) (by omega)]; simp only [Option.bind_some]
  rw [e5]; simp only [Option.bind_some]
  rw [impl_NextSeed_f, spec_NextSeed_f]
  simp only [Option.bind_some, beq_self_eq_true, if_true]
  by_cases h : (nextRes b).2 = true
  · rw [if_pos h, decide_eq_true (next_pos h)]
  · rw [if_neg h]
theorem T_l0 {k : Nat} {l st : List Int} (hl : ∀ v ∈ l, 0 ≤ v ∧ v ≤ 255) (hn : l.length ≤ 1048576) (h : okS st = true) (w : Nat) (hw : w < st.length) : ∀ (d k n : Nat) (c : Int), (n : Int) + d = sumL st → d + 2100 < k → ((n : Int) ≤ sumL (st.take w) ∧ c = 0 ∨ sumL (st.take w) ≤ n ∧ n ≤ sumL (st.take w) + rd st w ∧ c = n - sumL (st.take w) ∨ sumL (st.take w) + rd st w ≤ n ∧ c = rd st w) → laws_FnTurns.l0 k l st (w : Int) c (n : Int) = some true := by
  have hb := okS_bd h
  have hs := okS_sum h
  have hlen := okS_len h
  have hp := pre_le hb w hw
  have hr := hb _ (rd_mem st w hw)
  intro d
  induction d with
  | zero =>
    intro k n c hn2 hk hc
    obtain ⟨k, rfl⟩ : ∃ q, k = q + 1 := ⟨k - 1, by omega⟩
    simp only [laws_FnTurns.l0]
    rw [laws_sumOf_f (okS_big h) (by omega) (by omega)]; simp only [Option.bind_some]
    rw [if_neg (by omega), if_pos (by omega), if_pos (by omega), if_pos (by omega)]
    exact T_j6 hl hn (by omega)
  | succ d ih =>
    intro k n c hn2 hk hc
    obtain ⟨k, rfl⟩ : ∃ q, k = q + 1 := ⟨k - 1, by omega⟩
    have hiff := lot_iff hb (n := (n : Int)) (by omega) (by omega) w hw
    have er : lotRes st (n : Int) = (lot st n, true) := by
      unfold lotRes
      rw [if_pos]
      rw [h]; simp; omega
    simp only [laws_FnTurns.l0]
    rw [laws_sumOf_f (okS_big h) (by omega) (by omega)]; simp only [Option.bind_some]
    rw [if_pos (by omega), impl_LotAt_f (by omega) (by omega), er]
    simp only [Option.bind_some, if_true]
    rw [w64s (by omega)]
    by_cases e : lot st (n : Int) = (w : Int)
    · have h2 := hiff.1 e
      rw [if_pos e, w64 (n := c + 1) (by omega) (by omega)]
      exact ih k (n + 1) (c + 1) (by omega) (by omega) (by omega)
    · have h2 : ¬ (sumL (st.take w) ≤ (n : Int) ∧ (n : Int) < sumL (st.take w) + rd st w) := fun h3 => e (hiff.2 h3)
      rw [if_neg e]
      exact ih k (n + 1) c (by omega) (by omega) (by omega)
theorem T_j2 {k : Nat} {l : List Int} (hl : ∀ v ∈ l, 0 ≤ v ∧ v ≤ 255) (hn : l.length ≤ 1048576) (hk : 20000 < k) : laws_FnTurns.j2 k l = some true := by
  obtain ⟨k, rfl⟩ : ∃ q, k = q + 3 := ⟨k - 3, by omega⟩
  obtain ⟨st, n1, s1, e1, h2, h3, h4, h5⟩ := stakes_ex hl (by omega) (k + 2) 0 0 (by omega) (by omega) (by omega)
  obtain ⟨st, n, ed, hst⟩ : ∃ st n, spec_DrawLotAt.f (k + 2) l = some (st, n) ∧ st.length ≤ 11 := by
    have h6 : ∀ x ∈ st, 0 ≤ x ∧ x ≤ 10000000 := fun x hx => by have := h5 x hx; omega
    obtain ⟨b, n2, s2, e2, _⟩ := pick_ex hl (by omega) n1 s1 (wrap64 (mn 200 (sumL st) + 2)) (by omega) (by omega)
    unfold spec_DrawLotAt.f
    rw [e1]; simp only [Option.bind_some]
    rw [spec_l1Sum_f h6 (by omega) (by omega)]; simp only [Option.bind_some]
    rw [Least_f]; simp only [Option.bind_some]
    rw [e2]
    exact ⟨_, _, rfl, h4⟩
  simp only [laws_FnTurns.j2]
  rw [ed]; simp only [Option.bind_some]
  rw [impl_LotAt_f (by omega) (by omega), spec_LotAt_f (by omega) (by omega)]
  simp only [Option.bind_some, bne_self_eq_false, Bool.false_eq_true, if_false, laws_FnTurns.j3]
  by_cases hq : (okS st && decide (0 ≤ n ∧ n < sumL st)) = true
  · have er : lotRes st n = (lot st n, true) := by unfold lotRes; rw [if_pos hq]
    rw [Bool.and_eq_true, decide_eq_true_eq] at hq
    have hs := okS_sum hq.1
    have hlen := okS_len hq.1
    have hb := lot_bd hq.2.1 hq.2.2
    rw [er]
    simp only [if_true]
    rw [laws_sumOf_f (okS_big hq.1) (by omega) (by omega)]
    simp only [Option.bind_some, laws_FnTurns.j4]
    by_cases h100 : sumL st ≤ 100
    · rw [decide_eq_true h100, if_pos rfl]
      have := T_l0 (k := k) hl hn hq.1 (lot st n).toNat (by omega) (sumL st).toNat k 0 0 (by omega) (by omega) (.inl ⟨(pre_le (okS_bd hq.1) (lot st n).toNat (by omega)).1, rfl⟩)
      rw [show (((lot st n).toNat : Nat) : Int) = lot st n by omega] at this
      exact this
    · rw [decide_eq_false h100]
      simp only [Bool.false_eq_true, if_false]
      exact T_j6 hl hn (by omega)
  · have er : lotRes st n = (0, false) := by unfold lotRes; rw [if_neg hq]
    rw [er]
    simp only [Bool.false_eq_true, if_false, laws_FnTurns.j4]
    exact T_j6 hl hn (by omega)
theorem FnTurns : ∀ (l0 : List (Int)) (l1 : List (Int)), l0.length * 1 ≤ 140737488351232 → (∀ v ∈ l0, (Lit.int .u8 v).wf = true) → l1.length * 1 ≤ 140737488351232 → (∀ v ∈ l1, (Lit.int .u8 v).wf = true) → ∃ k, laws_FnTurns.f k l0 l1 = some true := by
  intro l0 l1 hl0 hw0 hl1 hw1
  have hb0 := u8_bd hw0
  have hb1 := u8_bd hw1
  suffices h : ∀ k, 2000000 ≤ k → laws_FnTurns.f k l0 l1 = some true from ⟨_, h _ (Nat.le_refl _)⟩
  intro k hk
  unfold laws_FnTurns.f
  rw [w64 (n := (l0.length : Int) + (l1.length : Int)) (by omega) (by omega)]
  by_cases h : (l0.length : Int) + (l1.length : Int) > 1048576
  · rw [if_pos h]
  · rw [if_neg h]
    obtain ⟨st, s, t, ed0, hst⟩ := drawTurn_ex hb0 (by omega) k (by omega)
    have ed : spec_DrawTurnsIn.f k l0 = some (st, s, t) := by unfold spec_DrawTurnsIn.f; rw [ed0]; rfl
    have hlen := turnsRes_len st s t
    rw [ed]; simp only [Option.bind_some]
    rw [impl_TurnsIn_f (by omega) (by omega), spec_TurnsIn_f (by omega) (by omega)]
    simp only [Option.bind_some, bne_self_eq_false, Bool.false_eq_true, if_false]
    rw [sameInts_f (by omega) (by omega)]
    simp only [Option.bind_some, Bool.not_true]
    obtain ⟨m, hm1, hm2⟩ : ∃ m, k = m + 2 ∧ 1999990 ≤ m := ⟨k - 2, by omega, by omega⟩
    rw [hm1]
    have hj := T_j2 (k := m) hb1 (by omega) (by omega)
    simp only [laws_FnTurns.j0, Bool.false_eq_true, if_false, laws_FnTurns.j1]
    by_cases hq : (okS st && okSeed s && inn t 0 100) = true
    · have er : turnsRes st s t = (turnsF st t.toNat s, true) := by unfold turnsRes; rw [if_pos hq]
      rw [er]
      simp only [if_true]
      simp only [Bool.and_eq_true] at hq
      obtain ⟨⟨hok, hsd⟩, ht⟩ := hq
      have ht2 := inn_t.1 ht
      have hl := okS_len hok
      by_cases hpos : t > 0
      · obtain ⟨v, ev, hv0, hv1⟩ := numberOf_ex (k := m) hb1 (by omega) (by omega)
        rw [decide_eq_true hpos, if_pos rfl, ev]
        simp only [Option.bind_some]
        rw [if_neg (by omega)]
        have hq0 : 0 ≤ Int.tmod v t := Int.tmod_nonneg _ hv0
        have hq1 : Int.tmod v t < t := Int.tmod_lt_of_pos _ hpos
        obtain ⟨q, hqe⟩ := Int.eq_ofNat_of_zero_le hq0
        rw [hqe] at hq1 ⊢
        have hwq : rd (turnsF st ((q : Int) + 1).toNat s) (q : Int) = rd (turnsF st 101 s) (q : Int) := turnsF_rd st q _ _ s (by omega) (by omega)
        have hwm : rd (turnsF st t.toNat s) (q : Int) = rd (turnsF st 101 s) (q : Int) := turnsF_rd st q _ _ s (by omega) (by omega)
        have e1 : turnRes st s (q : Int) = (rd (turnsF st 101 s) (q : Int), true) := by
          unfold turnRes
          rw [hok, hsd, inn_t.2 ⟨by omega, by omega⟩, hwq]; rfl
        have hbd := turnsF_bd hok 101 s _ (rd_mem (turnsF st 101 s) q (by rw [turnsF_len]; omega))
        have hix := idx_first (turnsF st 101 s) (rd (turnsF st 101 s) (q : Int)) (turnsF st 101 s).length 0 q (by omega) (by rw [turnsF_len]; omega) rfl
        have e2 : untilRes st s (rd (turnsF st 101 s) (q : Int)) = (idxOf (turnsF st 101 s) (rd (turnsF st 101 s) (q : Int)), true) := by
          unfold untilRes
          rw [hok, hsd, inn_t.2 ⟨by omega, by omega⟩, decide_eq_true (by unfold idxOf; omega)]; rfl
        have hix2 : 0 ≤ idxOf (turnsF st 101 s) (rd (turnsF st 101 s) (q : Int)) ∧ idxOf (turnsF st 101 s) (rd (turnsF st 101 s) (q : Int)) ≤ q ∧ rd (turnsF st 101 s) (idxOf (turnsF st 101 s) (rd (turnsF st 101 s) (q : Int))) = rd (turnsF st 101 s) (q : Int) := by
          unfold idxOf; exact ⟨by omega, hix.2.1, hix.2.2⟩
        obtain ⟨j, hje⟩ := Int.eq_ofNat_of_zero_le hix2.1
        rw [hje] at hix2
        have hjm : rd (turnsF st t.toNat s) (j : Int) = rd (turnsF st 101 s) (j : Int) := turnsF_rd st j _ _ s (by omega) (by omega)
        rw [impl_TurnOf_f (by omega) (by omega), e1]
        simp only [Option.bind_some]
        rw [impl_SlotsUntil_f (by omega) (by omega), e2, hje]
        simp only [Option.bind_some, if_true]
        rw [if_pos (by omega), if_pos (by rw [turnsF_len]; omega), if_pos hwm.symm, if_neg (by omega), if_pos (by omega), if_pos (by rw [turnsF_len]; omega), if_pos (by rw [hjm]; exact hix2.2.2)]
        exact hj
      · rw [decide_eq_false hpos]
        simp only [Bool.false_eq_true, if_false]
        exact hj
    · have er : turnsRes st s t = ([], false) := by unfold turnsRes; rw [if_neg hq]
      rw [er]
      simp only [Bool.false_eq_true, if_false]
      exact hj

end Go.Proofs.Ytejjchgjfapkkaa.Pure
