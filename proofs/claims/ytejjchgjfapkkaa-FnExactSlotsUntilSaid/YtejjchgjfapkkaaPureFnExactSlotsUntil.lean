/- The program's SlotsUntil and the reference's return the same at every list of integers and every two integers, and leave the list as it is. No condition. -/
import Derived.Test.YtejjchgjfapkkaaPFnExactSlotsUntilx0
import Derived.Test.YtejjchgjfapkkaaPFnExactSlotsUntilx1
import Derived.Test.YtejjchgjfapkkaaPFnExactSlotsUntilx2
import Derived.Test.YtejjchgjfapkkaaPFnExactSlotsUntilx3
namespace Go.Proofs.Ytejjchgjfapkkaa.Pure
open Go.RowKit Go.Proofs.Ytejjchgjfapkkaa.PFnExactSlotsUntil Go.Proofs.YtejjchgjfapkkaaW.PrintWords Go.Proofs.YtejjchgjfapkkaaW.PrintLast Go.Proofs.YtejjchgjfapkkaaW.PrintMore
set_option linter.unusedVariables false
set_option linter.unusedSimpArgs false
theorem w64 {n : Int} (h0 : -9223372036854775808 ≤ n) (h1 : n ≤ 9223372036854775807) : wrap64 n = n := by unfold wrap64; omega
theorem w64s {i : Nat} (h1 : i ≤ 1000000000000000) : wrap64 ((i : Int) + 1) = ((i + 1 : Nat) : Int) := by rw [w64 (by omega) (by omega)]; omega
theorem rd_eq (l : List Int) (i : Nat) : rd l (i : Int) = l.getD i 0 := by simp [rd]
theorem rd_get (l : List Int) (i : Nat) (h : i < l.length) : l[i]? = some (rd l (i : Int)) := by
  simp [rd, List.getD_eq_getElem?_getD, List.getElem?_eq_getElem h]
theorem rd_mem (l : List Int) (i : Nat) (h : i < l.length) : rd l (i : Int) ∈ l := List.mem_of_getElem? (rd_get l i h)
theorem step_k {k d : Nat} (h : d < k) : ∃ m, k = m + 1 := ⟨k - 1, by omega⟩
def inn (a b c : Int) : Bool := decide (b ≤ a ∧ a ≤ c)
theorem inn_t {a b c : Int} : inn a b c = true ↔ b ≤ a ∧ a ≤ c := by simp [inn]
theorem inn_f {a b c : Int} : inn a b c = false ↔ a < b ∨ c < a := by simp [inn]; omega
theorem l1In_f (a b c : Int) : spec_l1In.f a b c = some (inn a b c) := by
  unfold spec_l1In.f inn
  by_cases h : a ≥ b
  · rw [if_pos h]; simp [show b ≤ a from h]
  · rw [if_neg h]; simp [show ¬ b ≤ a from h]
theorem within_f (a b c : Int) : impl_within.f a b c = some (inn a b c) := by
  unfold impl_within.f inn
  by_cases h : a ≥ b
  · rw [if_pos h]; simp [show b ≤ a from h]
  · rw [if_neg h]; simp [show ¬ b ≤ a from h]
theorem eqIntS_l0 (l : List Int) (hn : l.length ≤ 100000000000000) (d : Nat) : ∀ (k i : Nat), i + d = l.length → d < k → laws_eqIntS.l0 k l l i = some true := by
  induction d with
  | zero =>
    intro k i hi hk
    obtain ⟨k, rfl⟩ := step_k hk
    simp only [laws_eqIntS.l0]; rw [if_neg (by omega)]
  | succ d ih =>
    intro k i hi hk
    obtain ⟨k, rfl⟩ := step_k hk
    simp only [laws_eqIntS.l0]
    rw [if_pos (by omega), if_pos (by omega), if_pos (by omega), if_true, w64s (by omega)]
    exact ih k (i + 1) (by omega) (by omega)
theorem eqIntS_f {k : Nat} {l : List Int} (hn : l.length ≤ 100000000000000) (hk : l.length < k) : laws_eqIntS.f k l l = some true := by
  unfold laws_eqIntS.f
  rw [if_pos rfl]
  exact eqIntS_l0 l hn l.length k 0 (by omega) hk
theorem toIntS_l0 (l : List Int) (hn : l.length ≤ 100000000000000) (d : Nat) : ∀ (k : Nat) (x : List Int) (i : Nat), x.length = l.length → i + d = l.length → d < k → (∀ j, j < i → x[j]? = l[j]?) →
    laws_toIntS.l0 k l x i = some l := by
  induction d with
  | zero =>
    intro k x i hx hi hk hp
    obtain ⟨k, rfl⟩ := step_k hk
    simp only [laws_toIntS.l0]; rw [if_neg (by omega)]
    congr 1
    apply List.ext_getElem?
    intro j
    by_cases h : j < i
    · exact hp j h
    · rw [List.getElem?_eq_none (by omega), List.getElem?_eq_none (by omega)]
  | succ d ih =>
    intro k x i hx hi hk hp
    obtain ⟨k, rfl⟩ := step_k hk
    simp only [laws_toIntS.l0]
    rw [if_pos (by omega), if_pos (by omega), if_pos (by omega), w64s (by omega)]
    refine ih k _ (i + 1) (by simpa using hx) (by omega) (by omega) ?_
    intro j hj
    rw [Int.toNat_natCast, List.getElem?_set]
    by_cases h : i = j
    · subst h
      rw [if_pos rfl, if_pos (by omega)]
      exact (rd_get l i (by omega)).symm
    · rw [if_neg h]; exact hp j (by omega)
theorem toIntS_f {k : Nat} {l : List Int} (hn : l.length ≤ 35184372088832) (hk : l.length < k) : laws_toIntS.f k l = some l := by
  unfold laws_toIntS.f
  rw [if_pos (by omega), if_pos (by omega)]
  exact toIntS_l0 l (by omega) l.length k _ 0 (by simp) (by omega) hk (by intro j hj; omega)
def allFrom (l : List Int) (lo hi : Int) : Nat → Nat → Bool
  | _, 0 => true
  | i, d + 1 => inn (rd l i) lo hi && allFrom l lo hi (i + 1) d
def allIn (l : List Int) (lo hi : Int) : Bool := allFrom l lo hi 0 l.length
theorem allFrom_iff (l : List Int) (lo hi : Int) : ∀ d i, allFrom l lo hi i d = true ↔ ∀ j : Nat, i ≤ j → j < i + d → lo ≤ rd l j ∧ rd l j ≤ hi := by
  intro d
  induction d with
  | zero => intro i; simp only [allFrom, true_iff]; intro j h1 h2; omega
  | succ d ih =>
    intro i
    simp only [allFrom, Bool.and_eq_true, ih, inn_t]
    constructor
    · rintro ⟨h1, h3⟩ j hj hj2
      by_cases e : j = i
      · subst e; exact h1
      · exact h3 j (by omega) (by omega)
    · intro h
      exact ⟨h i (Nat.le_refl _) (by omega), fun j hj hj2 => h j (by omega) (by omega)⟩
theorem allIn_bd {l : List Int} {lo hi : Int} (h : allIn l lo hi = true) : ∀ x ∈ l, lo ≤ x ∧ x ≤ hi := by
  intro x hx
  obtain ⟨i, hi', rfl⟩ := List.mem_iff_getElem.1 hx
  have := (allFrom_iff l lo hi l.length 0).1 h i (by omega) (by omega)
  rw [rd_eq, List.getD_eq_getElem?_getD, List.getElem?_eq_getElem hi'] at this
  exact this
theorem allIn_of {l : List Int} {lo hi : Int} (h : ∀ x ∈ l, lo ≤ x ∧ x ≤ hi) : allIn l lo hi = true := (allFrom_iff l lo hi l.length 0).2 fun j _ hj => h _ (rd_mem l j (by omega))
theorem l1All_l0 (l : List Int) (lo hi : Int) (hn : l.length ≤ 100000000000000) (d : Nat) : ∀ (k i : Nat), i + d = l.length → d < k → spec_l1All.l0 k lo hi l (l.length : Int) i = some (allFrom l lo hi i d) := by
  induction d with
  | zero =>
    intro k i hi' hk
    obtain ⟨k, rfl⟩ := step_k hk
    simp only [spec_l1All.l0]; rw [if_neg (by omega)]; rfl
  | succ d ih =>
    intro k i hi' hk
    obtain ⟨k, rfl⟩ := step_k hk
    simp only [spec_l1All.l0, l1In_f, Option.bind_some]
    rw [if_pos (by omega), if_pos (by omega), if_pos (by omega), w64s (by omega), ih k (i + 1) (by omega) (by omega)]
    simp only [allFrom]
    by_cases h1 : inn (rd l i) lo hi = true
    · rw [if_pos h1, h1]; simp
    · rw [if_neg h1]; simp [h1]
theorem l1All_f {k : Nat} {l : List Int} {lo hi : Int} (hn : l.length ≤ 100000000000000) (hk : l.length < k) : spec_l1All.f k l lo hi = some (allIn l lo hi) := by
  unfold spec_l1All.f
  exact l1All_l0 l lo hi hn l.length k 0 (by omega) hk
theorem IndexFunc_l0 (l : List Int) (hn : l.length ≤ 100000000000000) (d : Nat) : ∀ (k i : Nat), i + d = l.length → d < k → ∃ r, slices_IndexFunc_int_int.l0 k l (l.length : Int) i = some r ∧ (0 ≤ r ↔ allFrom l 1 1000 i d = false) := by
  induction d with
  | zero =>
    intro k i hi' hk
    obtain ⟨k, rfl⟩ := step_k hk
    simp only [slices_IndexFunc_int_int.l0]
    rw [if_neg (by omega)]
    exact ⟨_, rfl, by simp [allFrom]⟩
  | succ d ih =>
    intro k i hi' hk
    obtain ⟨k, rfl⟩ := step_k hk
    obtain ⟨r, hr, hiff⟩ := ih k (i + 1) (by omega) (by omega)
    simp only [slices_IndexFunc_int_int.l0, impl_areStakes_1.f, within_f, Option.bind_some]
    rw [if_pos (by omega), if_pos (by omega), if_pos (by omega), w64s (by omega)]
    simp only [allFrom]
    by_cases h1 : inn (rd l i) 1 1000 = true
    · rw [h1]
      simp only [Bool.not_true, Bool.false_eq_true, if_false, Bool.true_and]
      exact ⟨r, hr, hiff⟩
    · rw [Bool.eq_false_iff.2 h1]
      simp only [Bool.not_false, if_true, Bool.false_and]
      exact ⟨_, rfl, by simp⟩
theorem ContainsFunc_f {k : Nat} {l : List Int} {a : Int} (hn : l.length ≤ 100000000000000) (hk : l.length < k) : slices_ContainsFunc_int_int.f k l a = some (!allIn l 1 1000) := by
  unfold slices_ContainsFunc_int_int.f slices_IndexFunc_int_int.f
  obtain ⟨r, hr, hiff⟩ := IndexFunc_l0 l hn l.length k 0 (by omega) hk
  rw [show (0 : Int) = ((0 : Nat) : Int) from rfl, hr]
  simp only [Option.bind_some]
  congr 1
  unfold allIn
  rw [Bool.eq_iff_iff]
  simp only [decide_eq_true_eq, Bool.not_eq_true']
  exact hiff
def okS (l : List Int) : Bool := inn (l.length : Int) 1 10 && allIn l 1 1000
theorem okS_len {l : List Int} (h : okS l = true) : 1 ≤ l.length ∧ l.length ≤ 10 := by
  simp only [okS, Bool.and_eq_true, inn_t] at h; omega
theorem okS_bd {l : List Int} (h : okS l = true) : ∀ x ∈ l, 1 ≤ x ∧ x ≤ 1000 := by
  simp only [okS, Bool.and_eq_true] at h; exact allIn_bd h.2
theorem GoodStakesS_f {k : Nat} {l : List Int} (hn : l.length ≤ 100000000000000) (hk : l.length < k) : spec_GoodStakes.f k l = some (okS l) := by
  unfold spec_GoodStakes.f okS
  simp (disch := assumption) only [l1In_f, l1All_f, Option.bind_some]
  by_cases h : inn (l.length : Int) 1 10 = true
  · rw [if_pos h, h, Bool.true_and]
  · rw [if_neg h]; simp [h]
theorem areStakes_f {k : Nat} {l : List Int} (hn : l.length ≤ 100000000000000) (hk : 30 < k) : impl_areStakes.f k l = some (okS l) := by
  unfold impl_areStakes.f okS
  simp only [within_f, Option.bind_some]
  by_cases h : inn (l.length : Int) 1 10 = true
  · have h2 := inn_t.1 h
    rw [if_pos h, h, Bool.true_and, ContainsFunc_f hn (by omega)]
    simp
  · rw [if_neg h]; simp [h]
def sumL : List Int → Int
  | [] => 0
  | x :: l => x + sumL l
theorem sumL_append (a b : List Int) : sumL (a ++ b) = sumL a + sumL b := by
  induction a with
  | nil => simp [sumL]
  | cons x a ih => simp only [List.cons_append, sumL, ih]; omega
theorem sumL_bd {l : List Int} {M : Int} (h : ∀ x ∈ l, 0 ≤ x ∧ x ≤ M) : 0 ≤ sumL l ∧ sumL l ≤ M * l.length := by
  induction l with
  | nil => simp [sumL]
  | cons x l ih =>
    have h1 := h x (by simp)
    have h2 := ih fun y hy => h y (by simp [hy])
    simp only [sumL, List.length_cons]
    have : M * ((l.length + 1 : Nat) : Int) = M * l.length + M := by rw [Int.natCast_add, Int.mul_add]; simp
    omega
theorem drop_rd (l : List Int) (i : Nat) (h : i < l.length) : l.drop i = rd l i :: l.drop (i + 1) := by
  rw [List.drop_eq_getElem_cons h]
  congr 1
  rw [rd_eq, List.getD_eq_getElem?_getD, List.getElem?_eq_getElem h]; rfl
theorem spec_l1Sum_l0 (l : List Int) (h : ∀ x ∈ l, 0 ≤ x ∧ x ≤ 10000000) (hn : l.length ≤ 1000000) (d : Nat) : ∀ (k i : Nat) (acc : Int), 0 ≤ acc → acc ≤ 10000000 * (i : Int) → i + d = l.length → d < k → spec_l1Sum.l0 k acc l (l.length : Int) i = some (acc + sumL (l.drop i)) := by
  induction d with
  | zero =>
    intro k i acc _ _ hi' hk
    obtain ⟨k, rfl⟩ := step_k hk
    simp only [spec_l1Sum.l0]; rw [if_neg (by omega), List.drop_eq_nil_of_le (by omega)]; simp [sumL]
  | succ d ih =>
    intro k i acc h0 h1 hi' hk
    obtain ⟨k, rfl⟩ := step_k hk
    have hx := h _ (rd_mem l i (by omega))
    simp only [spec_l1Sum.l0]
    rw [if_pos (by omega), if_pos (by omega), if_pos (by omega), w64s (by omega), w64 (n := acc + rd l i) (by omega) (by omega), ih k (i + 1) _ (by omega) (by omega) (by omega) (by omega), drop_rd l i (by omega)]
    simp only [sumL]
    congr 1; omega
theorem spec_l1Sum_f {k : Nat} {l : List Int} (h : ∀ x ∈ l, 0 ≤ x ∧ x ≤ 10000000) (hn : l.length ≤ 1000000) (hk : l.length < k) : spec_l1Sum.f k l = some (sumL l) := by
  unfold spec_l1Sum.f
  have := spec_l1Sum_l0 l h hn l.length k 0 0 (by omega) (by omega) (by omega) hk
  simpa using this
theorem impl_sumOf_l0 (l : List Int) (h : ∀ x ∈ l, 0 ≤ x ∧ x ≤ 10000000) (hn : l.length ≤ 1000000) (d : Nat) : ∀ (k i : Nat) (acc : Int), 0 ≤ acc → acc ≤ 10000000 * (i : Int) → i + d = l.length → d < k → impl_sumOf.l0 k acc l (l.length : Int) i = some (acc + sumL (l.drop i)) := by
  induction d with
  | zero =>
    intro k i acc _ _ hi' hk
    obtain ⟨k, rfl⟩ := step_k hk
    simp only [impl_sumOf.l0]; rw [if_neg (by omega), List.drop_eq_nil_of_le (by omega)]; simp [sumL]
  | succ d ih =>
    intro k i acc h0 h1 hi' hk
    obtain ⟨k, rfl⟩ := step_k hk
    have hx := h _ (rd_mem l i (by omega))
    simp only [impl_sumOf.l0]
    rw [if_pos (by omega), if_pos (by omega), if_pos (by omega), w64s (by omega), w64 (n := acc + rd l i) (by omega) (by omega), ih k (i + 1) _ (by omega) (by omega) (by omega) (by omega), drop_rd l i (by omega)]
    simp only [sumL]
    congr 1; omega
theorem impl_sumOf_f {k : Nat} {l : List Int} (h : ∀ x ∈ l, 0 ≤ x ∧ x ≤ 10000000) (hn : l.length ≤ 1000000) (hk : l.length < k) : impl_sumOf.f k l = some (sumL l) := by
  unfold impl_sumOf.f
  have := impl_sumOf_l0 l h hn l.length k 0 0 (by omega) (by omega) (by omega) hk
  simpa using this
theorem okS_big {l : List Int} (h : okS l = true) : ∀ x ∈ l, 0 ≤ x ∧ x ≤ 10000000 := fun x hx => by have := okS_bd h x hx; omega
theorem okS_sum {l : List Int} (h : okS l = true) : 1 ≤ sumL l ∧ sumL l ≤ 10000 := by
  have h1 := sumL_bd (M := 1000) fun x hx => (by have := okS_bd h x hx; omega : 0 ≤ x ∧ x ≤ 1000)
  have h2 := okS_len h
  refine ⟨?_, by omega⟩
  match l, h, h2 with
  | x :: r, h, _ =>
    have h3 := okS_bd h x (by simp)
    have h4 := sumL_bd (l := r) (M := 1000) fun y hy => (by have := okS_bd h y (by simp [hy]); omega : 0 ≤ y ∧ y ≤ 1000)
    simp only [sumL]
    omega
def lotF (l : List Int) : Int → Nat → Nat → Int
  | _, _, 0 => -1
  | n, i, d + 1 => if n < rd l i then (i : Int) else lotF l (n - rd l i) (i + 1) d
def lot (l : List Int) (n : Int) : Int := lotF l n 0 l.length
theorem l2Lot_l0 (l : List Int) (h : ∀ x ∈ l, 0 ≤ x ∧ x ≤ 10000000) (hn : l.length ≤ 1000) (d : Nat) : ∀ (k i : Nat) (n : Int), 0 ≤ n → n ≤ 1000000000000 → i + d = l.length → d < k → spec_l2Lot.l0 k n l (l.length : Int) i = some (lotF l n i d) := by
  induction d with
  | zero =>
    intro k i n _ _ hi' hk
    obtain ⟨k, rfl⟩ := step_k hk
    simp only [spec_l2Lot.l0]; rw [if_neg (by omega)]; rfl
  | succ d ih =>
    intro k i n h0 h1 hi' hk
    obtain ⟨k, rfl⟩ := step_k hk
    have hx := h _ (rd_mem l i (by omega))
    simp only [spec_l2Lot.l0, lotF]
    rw [if_pos (by omega), if_pos (by omega), if_pos (by omega), w64s (by omega)]
    by_cases hlt : n < rd l i
    · rw [if_pos hlt, if_pos hlt]
    · rw [if_neg hlt, if_neg hlt, w64 (n := n - rd l i) (by omega) (by omega), ih k (i + 1) _ (by omega) (by omega) (by omega) (by omega)]
theorem l2Lot_f {k : Nat} {l : List Int} {n : Int} (h : okS l = true) (h0 : 0 ≤ n) (h1 : n ≤ 1000000000000) (hk : 30 < k) : spec_l2Lot.f k l n = some (lot l n) := by
  unfold spec_l2Lot.f
  have := okS_len h
  exact l2Lot_l0 l (okS_big h) (by omega) l.length k 0 n h0 h1 (by omega) (by omega)
theorem lotAt_l0 (l : List Int) (h : ∀ x ∈ l, 0 ≤ x ∧ x ≤ 10000000) (hn : l.length ≤ 1000) (d : Nat) : ∀ (k i : Nat) (n s : Int), 0 ≤ n - s → n - s < sumL (l.drop i) → 0 ≤ s → s ≤ 10000000 * (i : Int) → i + d = l.length → d < k → impl_lotAt.l0 k l n s l (l.length : Int) i = some (lotF l (n - s) i d) := by
  induction d with
  | zero =>
    intro k i n s h0 h1 _ _ hi' hk
    rw [List.drop_eq_nil_of_le (by omega)] at h1
    simp only [sumL] at h1
    omega
  | succ d ih =>
    intro k i n s h0 h1 hs0 hs1 hi' hk
    obtain ⟨k, rfl⟩ := step_k hk
    have hx := h _ (rd_mem l i (by omega))
    rw [drop_rd l i (by omega)] at h1
    simp only [sumL] at h1
    simp only [impl_lotAt.l0, lotF]
    rw [if_pos (by omega), if_pos (by omega), if_pos (by omega), w64s (by omega), w64 (n := s + rd l i) (by omega) (by omega)]
    by_cases hlt : n - s < rd l i
    · rw [if_pos hlt, if_pos (by omega)]
    · rw [if_neg hlt, if_neg (by omega), ih k (i + 1) n (s + rd l i) (by omega) (by omega) (by omega) (by omega) (by omega) (by omega), show n - (s + rd l i) = n - s - rd l i by omega]
theorem lotAt_f {k : Nat} {l : List Int} {n : Int} (h : okS l = true) (h0 : 0 ≤ n) (h1 : n < sumL l) (hk : 30 < k) : impl_lotAt.f k l n = some (lot l n) := by
  unfold impl_lotAt.f
  have := okS_len h
  have := lotAt_l0 l (okS_big h) (by omega) l.length k 0 n 0 (by omega) (by simpa using h1) (by omega) (by omega) (by omega) (by omega)
  rw [Int.sub_zero] at this
  exact this
def nx (s : Int) : Int := 17364 * s % 65521
theorem nx_bd (s : Int) : 0 ≤ nx s ∧ nx s ≤ 65520 := by unfold nx; omega
def turnsF (l : List Int) : Nat → Int → List Int
  | 0, _ => []
  | m + 1, s => lot l (nx s % sumL l) :: turnsF l m (nx s)
theorem turnsF_len (l : List Int) : ∀ m s, (turnsF l m s).length = m := by
  intro m
  induction m with
  | zero => intro s; rfl
  | succ m ih => intro s; simp [turnsF, ih]
def okSeed (s : Int) : Bool := inn s 1 65520
theorem l2Next_f {s : Int} (h0 : 0 ≤ s) (h1 : s ≤ 65520) : spec_l2Next.f s = some (nx s) := by
  unfold spec_l2Next.f nx
  rw [w64 (by omega) (by omega), Int.tmod_eq_emod_of_nonneg (by omega)]
theorem l2Turns_l0 {l : List Int} (h : okS l = true) : ∀ (d k : Nat) (s m : Int) (acc : List Int), m = d → 0 ≤ s → s ≤ 65520 → acc.length + d ≤ 1000000 → d + 60 < k → spec_l2Turns.l0 k l s m acc = some (acc ++ turnsF l d s) := by
  have hl := okS_len h
  have hs := okS_sum h
  intro d
  induction d with
  | zero =>
    intro k s m acc hm _ _ _ hk
    obtain ⟨k, rfl⟩ : ∃ q, k = q + 1 := ⟨k - 1, by omega⟩
    simp only [spec_l2Turns.l0]
    rw [if_neg (by omega)]; simp [turnsF]
  | succ d ih =>
    intro k s m acc hm h0 h1 hacc hk
    obtain ⟨k, rfl⟩ : ∃ q, k = q + 1 := ⟨k - 1, by omega⟩
    have hx := nx_bd s
    simp only [spec_l2Turns.l0]
    rw [if_pos (by omega), l2Next_f h0 h1]
    simp only [Option.bind_some]
    rw [spec_l1Sum_f (okS_big h) (by omega) (by omega)]
    simp only [Option.bind_some]
    have hm0 : 0 ≤ nx s % sumL l := Int.emod_nonneg _ (by omega)
    have hm1 : nx s % sumL l < sumL l := Int.emod_lt_of_pos _ (by omega)
    rw [if_neg (by omega), Int.tmod_eq_emod_of_nonneg hx.1, l2Lot_f h hm0 (by omega) (by omega)]
    simp only [Option.bind_some]
    rw [if_pos (by omega), w64 (n := m - 1) (by omega) (by omega), ih k (nx s) (m - 1) _ (by omega) hx.1 hx.2 (by simp; omega) (by omega)]
    simp [turnsF]
theorem l2Turns_f {k d : Nat} {l : List Int} {s m : Int} (h : okS l = true) (hm : m = d) (h0 : 0 ≤ s) (h1 : s ≤ 65520) (hd : d ≤ 200) (hk : d + 60 < k) : spec_l2Turns.f k l s m = some (turnsF l d s) := by
  unfold spec_l2Turns.f
  rw [l2Turns_l0 h d k s m [] hm h0 h1 (by simp; omega) hk]; rfl
theorem l2Good_f {k : Nat} {l : List Int} {s : Int} (hn : l.length ≤ 100000000000000) (hk : l.length < k) : spec_l2Good.f k l s = some (okS l && okSeed s) := by
  unfold spec_l2Good.f spec_l2Seed.f okSeed
  simp (disch := omega) only [GoodStakesS_f, l1In_f, Option.bind_some]
  by_cases h : okS l = true
  · rw [if_pos h, h, Bool.true_and]
  · rw [if_neg h]; simp [h]
theorem nextSeed_f {s : Int} (h0 : 0 ≤ s) (h1 : s ≤ 65520) : impl_nextSeed.f s = some (nx s) := by
  unfold impl_nextSeed.f nx
  rw [w64 (by omega) (by omega), Int.tmod_eq_emod_of_nonneg (by omega)]
theorem turnsIn_l0 {l : List Int} (h : okS l = true) (m : Int) (hm : m ≤ 1000000) : ∀ (d k i : Nat) (s : Int) (acc : List Int), (i : Int) + d = m → 0 ≤ s → s ≤ 65520 → acc.length + d ≤ 1000000 → d + 60 < k → impl_turnsIn.l0 k l s acc (sumL l) m i = some (acc ++ turnsF l d s) := by
  have hl := okS_len h
  have hs := okS_sum h
  intro d
  induction d with
  | zero =>
    intro k i s acc hi _ _ _ hk
    obtain ⟨k, rfl⟩ : ∃ q, k = q + 1 := ⟨k - 1, by omega⟩
    simp only [impl_turnsIn.l0]
    rw [if_neg (by omega)]; simp [turnsF]
  | succ d ih =>
    intro k i s acc hi h0 h1 hacc hk
    obtain ⟨k, rfl⟩ : ∃ q, k = q + 1 := ⟨k - 1, by omega⟩
    have hx := nx_bd s
    simp only [impl_turnsIn.l0]
    rw [if_pos (by omega), nextSeed_f h0 h1]
    simp only [Option.bind_some]
    have hm0 : 0 ≤ nx s % sumL l := Int.emod_nonneg _ (by omega)
    have hm1 : nx s % sumL l < sumL l := Int.emod_lt_of_pos _ (by omega)
    rw [if_neg (by omega), Int.tmod_eq_emod_of_nonneg hx.1, lotAt_f h hm0 hm1 (by omega)]
    simp only [Option.bind_some]
    rw [if_pos (by omega), w64s (by omega), ih k (i + 1) (nx s) _ (by omega) hx.1 hx.2 (by simp; omega) (by omega)]
    simp [turnsF]
theorem turnsIn_f {k d : Nat} {l : List Int} {s m : Int} (h : okS l = true) (hm : m = d) (h0 : 0 ≤ s) (h1 : s ≤ 65520) (hd : d ≤ 200) (hk : d + 60 < k) : impl_turnsIn.f k l s m = some (turnsF l d s) := by
  have hl := okS_len h
  unfold impl_turnsIn.f
  rw [impl_sumOf_f (okS_big h) (by omega) (by omega)]
  simp only [Option.bind_some]
  have := turnsIn_l0 h m (by omega) d k 0 s [] (by omega) h0 h1 (by simp; omega) hk
  rw [show ((0 : Nat) : Int) = 0 from rfl] at this
  rw [this]; rfl
theorem isSeed_f (s : Int) : impl_isSeed.f s = some (okSeed s) := by
  unfold impl_isSeed.f okSeed; simp only [within_f, Option.bind_some]
/-- The first place of a number, or -1. -/
def idxF (l : List Int) (x : Int) : Nat → Nat → Int
  | _, 0 => -1
  | i, d + 1 => if rd l i = x then (i : Int) else idxF l x (i + 1) d
def idxOf (l : List Int) (x : Int) : Int := idxF l x 0 l.length
def untilRes (l : List Int) (s w : Int) : Int × Bool := if okS l && okSeed s && inn w 0 ((l.length : Int) - 1) && decide (0 ≤ idxOf (turnsF l 101 s) w) then (idxOf (turnsF l 101 s) w, true) else (0, false)
def found (r : Int) : Int × Bool := if 0 ≤ r then (r, true) else (0, false)
theorem until_l0 (l : List Int) (x : Int) (hn : l.length ≤ 100000000) (d : Nat) : ∀ (k i : Nat), i + d = l.length → d < k → spec_SlotsUntil.l0 k x l (l.length : Int) i = some (found (idxF l x i d)) := by
  induction d with
  | zero =>
    intro k i hi' hk
    obtain ⟨k, rfl⟩ := step_k hk
    simp only [spec_SlotsUntil.l0]; rw [if_neg (by omega)]; rfl
  | succ d ih =>
    intro k i hi' hk
    obtain ⟨k, rfl⟩ := step_k hk
    simp only [spec_SlotsUntil.l0]
    have e : idxF l x i (d + 1) = if rd l i = x then (i : Int) else idxF l x (i + 1) d := rfl
    rw [if_pos (by omega), if_pos (by omega), if_pos (by omega), w64s (by omega), e]
    by_cases h : rd l i = x
    · rw [if_pos h, if_pos h]; simp [found]
    · rw [if_neg h, if_neg h, ih k (i + 1) (by omega) (by omega)]
theorem Index_l0 (l : List Int) (x : Int) (hn : l.length ≤ 100000000) (d : Nat) : ∀ (k i : Nat), i + d = l.length → d < k → slices_Index_int_int.l0 k l x (l.length : Int) i = some (idxF l x i d) := by
  induction d with
  | zero =>
    intro k i hi' hk
    obtain ⟨k, rfl⟩ := step_k hk
    simp only [slices_Index_int_int.l0, idxF]; rw [if_neg (by omega)]
  | succ d ih =>
    intro k i hi' hk
    obtain ⟨k, rfl⟩ := step_k hk
    simp only [slices_Index_int_int.l0, idxF]
    rw [if_pos (by omega), if_pos (by omega), if_pos (by omega), w64s (by omega)]
    by_cases h : rd l i = x
    · rw [if_pos h, if_pos h.symm]
    · rw [if_neg h, if_neg (fun h' => h h'.symm), ih k (i + 1) (by omega) (by omega)]
theorem Index_f {k : Nat} {l : List Int} {x : Int} (hn : l.length ≤ 100000000) (hk : l.length < k) : slices_Index_int_int.f k l x = some (idxOf l x) := by
  unfold slices_Index_int_int.f
  exact Index_l0 l x hn l.length k 0 (by omega) hk
theorem spec_SlotsUntil_f {k : Nat} {l : List Int} {s w : Int} (hn : l.length ≤ 100000000000000) (hk : l.length + 600 < k) : spec_SlotsUntil.f k l s w = some (untilRes l s w) := by
  obtain ⟨k, rfl⟩ := step_k hk
  unfold spec_SlotsUntil.f untilRes
  simp (disch := omega) only [l2Good_f, l1In_f, Option.bind_some, spec_SlotsUntil.j0]
  rw [w64 (n := (l.length : Int) - 1) (by omega) (by omega)]
  by_cases h : (okS l && okSeed s) = true
  · have h' := h
    rw [Bool.and_eq_true] at h'
    have h3 := inn_t.1 (show inn s 1 65520 = true from h'.2)
    rw [if_pos h, h, Bool.true_and]
    by_cases h1 : inn w 0 ((l.length : Int) - 1) = true
    · rw [h1]
      simp only [Bool.not_true, Bool.false_eq_true, if_false, Bool.true_and]
      rw [l2Turns_f (d := 101) h'.1 (by omega) (by omega) (by omega) (by omega) (by omega)]
      simp only [Option.bind_some]
      have := until_l0 (turnsF l 101 s) w (by rw [turnsF_len]; omega) (turnsF l 101 s).length k 0 (by omega) (by rw [turnsF_len]; omega)
      rw [show ((0 : Nat) : Int) = 0 from rfl] at this
      rw [this]
      unfold found idxOf
      by_cases h9 : 0 ≤ idxF (turnsF l 101 s) w 0 (turnsF l 101 s).length <;> simp [h9]
    · simp [h1]
  · rw [if_neg h]; simp [h]
theorem impl_SlotsUntil_f {k : Nat} {l : List Int} {s w : Int} (hn : l.length ≤ 100000000000000) (hk : l.length + 600 < k) : impl_SlotsUntil.f k l s w = some (untilRes l s w) := by
  obtain ⟨k, rfl⟩ := step_k hk
  unfold impl_SlotsUntil.f untilRes
  simp (disch := omega) only [areStakes_f, isSeed_f, within_f, Option.bind_some, impl_SlotsUntil.j0]
  rw [w64 (n := (l.length : Int) - 1) (by omega) (by omega)]
  by_cases h : okS l = true
  · by_cases h0 : okSeed s = true
    · have h3 := inn_t.1 (show inn s 1 65520 = true from h0)
      rw [if_pos h, if_pos h0, h, h0, Bool.true_and, Bool.true_and]
      by_cases h1 : inn w 0 ((l.length : Int) - 1) = true
      · rw [h1]
        simp only [Bool.not_true, Bool.false_eq_true, if_false, Bool.true_and]
        rw [turnsIn_f (d := 101) h (by omega) (by omega) (by omega) (by omega) (by omega)]
        simp only [Option.bind_some]
        rw [Index_f (by rw [turnsF_len]; omega) (by rw [turnsF_len]; omega)]
        simp only [Option.bind_some]
        by_cases h2 : idxOf (turnsF l 101 s) w < 0
        · rw [if_pos h2, if_neg (by simp; omega)]
        · rw [if_neg h2, if_pos (by simp; omega)]
      · simp [h1]
    · rw [if_pos h, if_neg h0]; simp [h0]
  · rw [if_neg h]; simp [h]
theorem FnExactSlotsUntil : ∀ (l0 : List (Int)) (a1 : Int) (a2 : Int), l0.length * 8 ≤ 140737488351232 → (∀ v ∈ l0, (Lit.int .i64 v).wf = true) → (Lit.int .i64 a1).wf = true → (Lit.int .i64 a2).wf = true → ∃ k, laws_FnExactSlotsUntil.f k l0 a1 a2 = some true := by
  intro l s w
  intros
  suffices h : ∀ k, 1248900 ≤ k → laws_FnExactSlotsUntil.f k l s w = some true from ⟨_, h _ (Nat.le_refl _)⟩
  intro k hk
  unfold laws_FnExactSlotsUntil.f
  by_cases h : (l.length : Int) > 1048576
  · rw [if_pos h]
  · rw [if_neg h]
    obtain ⟨m, hm1, hm2⟩ : ∃ m, k = m + 1 ∧ 1248800 ≤ m := ⟨k - 1, by omega, by omega⟩
    rw [hm1]
    simp (disch := omega) only [toIntS_f, spec_SlotsUntil_f, impl_SlotsUntil_f, eqIntS_f, Option.bind_some, bne_self_eq_false, laws_FnExactSlotsUntil.j0, Bool.false_eq_true, if_false, if_true]

end Go.Proofs.Ytejjchgjfapkkaa.Pure
