/- The program's SumsOf and the reference's return the same at every list of integers, in memory of their own, and leave the list as it is. No condition. -/
import Derived.Test.YtdjdkabblfccjaaPFnExactSumsOfx0
import Derived.Test.YtdjdkabblfccjaaPFnExactSumsOfx1
import Derived.Test.YtdjdkabblfccjaaPFnExactSumsOfx2
import Derived.Test.YtdjdkabblfccjaaPFnExactSumsOfx3
import Derived.Test.YtdjdkabblfccjaaPFnExactSumsOfx4
namespace Go.Proofs.Ytdjdkabblfccjaa.Pure
open Go.RowKit Go.Proofs.Ytdjdkabblfccjaa.PFnExactSumsOf Go.Proofs.YtdjdkabblfccjaaW.PrintWords Go.Proofs.YtdjdkabblfccjaaW.PrintLast Go.Proofs.YtdjdkabblfccjaaW.PrintMore
set_option linter.unusedVariables false
set_option linter.unusedSimpArgs false
theorem w64 {n : Int} (h0 : -9223372036854775808 ≤ n) (h1 : n ≤ 9223372036854775807) : wrap64 n = n := by unfold wrap64; omega
theorem w64s {i : Nat} (h1 : i ≤ 1000000000000000) : wrap64 ((i : Int) + 1) = ((i + 1 : Nat) : Int) := by rw [w64 (by omega) (by omega)]; omega
theorem rd_eq (l : List Int) (i : Nat) : rd l (i : Int) = l.getD i 0 := by simp [rd]
theorem rd_get (l : List Int) (i : Nat) (h : i < l.length) : l[i]? = some (rd l (i : Int)) := by
  simp [rd, List.getD_eq_getElem?_getD, List.getElem?_eq_getElem h]
theorem rd_mem (l : List Int) (i : Nat) (h : i < l.length) : rd l (i : Int) ∈ l := List.mem_of_getElem? (rd_get l i h)
theorem step_k {k d : Nat} (h : d < k) : ∃ m, k = m + 1 := ⟨k - 1, by omega⟩
def inn (a b c : Int) : Bool := decide (b ≤ a ∧ a ≤ c)
theorem inn_t {a b c : Int} : inn a b c = true ↔ b ≤ a ∧ a ≤ c := by simp [inn]
theorem inn_f {a b c : Int} : inn a b c = false ↔ a < b ∨ c < a := by simp [inn]; omega
theorem l1In_f (a b c : Int) : spec_l1In.f a b c = some (inn a b c) := by
  unfold spec_l1In.f inn
  by_cases h : a ≥ b
  · rw [if_pos h]; simp [show b ≤ a from h]
  · rw [if_neg h]; simp [show ¬ b ≤ a from h]
theorem within_f (a b c : Int) : impl_within.f a b c = some (inn a b c) := by
  unfold impl_within.f inn
  by_cases h : a ≥ b
  · rw [if_pos h]; simp [show b ≤ a from h]
  · rw [if_neg h]; simp [show ¬ b ≤ a from h]
theorem i64_bd {v : Int} (h : (Lit.int .i64 v).wf = true) : -9223372036854775808 ≤ v ∧ v ≤ 9223372036854775807 := by
  simp [Lit.wf, IntKind.min, IntKind.max, IntKind.signed, IntKind.bits] at h
  exact h
theorem eqIntS_l0 (l : List Int) (hn : l.length ≤ 100000000000000) (d : Nat) : ∀ (k i : Nat), i + d = l.length → d < k → laws_eqIntS.l0 k l l i = some true := by
  induction d with
  | zero =>
    intro k i hi hk
    obtain ⟨k, rfl⟩ := step_k hk
    simp only [laws_eqIntS.l0]; rw [if_neg (by omega)]
  | succ d ih =>
    intro k i hi hk
    obtain ⟨k, rfl⟩ := step_k hk
    simp only [laws_eqIntS.l0]
    rw [if_pos (by omega), if_pos (by omega), if_pos (by omega), if_true, w64s (by omega)]
    exact ih k (i + 1) (by omega) (by omega)
theorem eqIntS_f {k : Nat} {l : List Int} (hn : l.length ≤ 100000000000000) (hk : l.length < k) : laws_eqIntS.f k l l = some true := by
  unfold laws_eqIntS.f
  rw [if_pos rfl]
  exact eqIntS_l0 l hn l.length k 0 (by omega) hk
theorem toIntS_l0 (l : List Int) (hn : l.length ≤ 100000000000000) (d : Nat) : ∀ (k : Nat) (x : List Int) (i : Nat), x.length = l.length → i + d = l.length → d < k → (∀ j, j < i → x[j]? = l[j]?) →
    laws_toIntS.l0 k l x i = some l := by
  induction d with
  | zero =>
    intro k x i hx hi hk hp
    obtain ⟨k, rfl⟩ := step_k hk
    simp only [laws_toIntS.l0]; rw [if_neg (by omega)]
    congr 1
    apply List.ext_getElem?
    intro j
    by_cases h : j < i
    · exact hp j h
    · rw [List.getElem?_eq_none (by omega), List.getElem?_eq_none (by omega)]
  | succ d ih =>
    intro k x i hx hi hk hp
    obtain ⟨k, rfl⟩ := step_k hk
    simp only [laws_toIntS.l0]
    rw [if_pos (by omega), if_pos (by omega), if_pos (by omega), w64s (by omega)]
    refine ih k _ (i + 1) (by simpa using hx) (by omega) (by omega) ?_
    intro j hj
    rw [Int.toNat_natCast, List.getElem?_set]
    by_cases h : i = j
    · subst h
      rw [if_pos rfl, if_pos (by omega)]
      exact (rd_get l i (by omega)).symm
    · rw [if_neg h]; exact hp j (by omega)
theorem toIntS_f {k : Nat} {l : List Int} (hn : l.length ≤ 35184372088832) (hk : l.length < k) : laws_toIntS.f k l = some l := by
  unfold laws_toIntS.f
  rw [if_pos (by omega), if_pos (by omega)]
  exact toIntS_l0 l (by omega) l.length k _ 0 (by simp) (by omega) hk (by intro j hj; omega)
def marks (a : Int) (n : Nat) : List Int := (List.range n).map fun i : Nat => a + (i : Int)
theorem marks_len (a : Int) (n : Nat) : (marks a n).length = n := by simp [marks]
theorem marks_rd (a : Int) (n i : Nat) (h : i < n) : rd (marks a n) (i : Int) = a + i := by
  simp [marks, rd, List.getD_eq_getElem?_getD, h]
theorem markIntS_l0 (n : Nat) (hn : n ≤ 100000000000000) (a : Int) (h0 : 0 ≤ a) (ha : a ≤ 100000000000000) (d : Nat) : ∀ (k : Nat) (x : List Int) (i : Nat), x.length = n → i + d = n → d < k → (∀ j, j < i → x[j]? = some (a + (j : Int))) →
    laws_markIntS.l0 k x (a + i) i = some (a + n, marks a n) := by
  induction d with
  | zero =>
    intro k x i hx hi hk hp
    obtain ⟨k, rfl⟩ := step_k hk
    simp only [laws_markIntS.l0]; rw [if_neg (by omega)]
    congr 1
    refine Prod.ext (by simp; omega) ?_
    apply List.ext_getElem?
    intro j
    by_cases h : j < i
    · show x[j]? = _
      rw [hp j h]; simp [marks, show j < n by omega]
    · rw [List.getElem?_eq_none (by simp; omega), List.getElem?_eq_none (by rw [marks_len]; omega)]
  | succ d ih =>
    intro k x i hx hi hk hp
    obtain ⟨k, rfl⟩ := step_k hk
    simp only [laws_markIntS.l0]
    rw [if_pos (by omega), if_pos (by omega), w64s (by omega), w64 (n := a + (i : Int) + 1) (by omega) (by omega), show a + (i : Int) + 1 = a + ((i + 1 : Nat) : Int) by omega]
    refine ih k _ (i + 1) (by simpa using hx) (by omega) (by omega) ?_
    intro j hj
    rw [Int.toNat_natCast, List.getElem?_set]
    by_cases h : i = j
    · subst h
      rw [if_pos rfl, if_pos (by omega)]
    · rw [if_neg h]; exact hp j (by omega)
theorem markIntS_f {k : Nat} {l : List Int} {a : Int} (hn : l.length ≤ 100000000000000) (h0 : 0 ≤ a) (ha : a ≤ 100000000000000) (hk : l.length < k) : laws_markIntS.f k l a = some (a + l.length, marks a l.length) := by
  unfold laws_markIntS.f
  have := markIntS_l0 l.length hn a h0 ha l.length k l 0 rfl (by omega) hk (by intro j hj; omega)
  rw [show a + ((0 : Nat) : Int) = a by omega] at this
  exact this
theorem heldIntS_l0 (n : Nat) (hn : n ≤ 100000000000000) (a : Int) (h0 : 0 ≤ a) (ha : a ≤ 100000000000000) (d : Nat) : ∀ (k i : Nat), i + d = n → d < k → laws_heldIntS.l0 k (marks a n) (a + i) i = some (a + n) := by
  induction d with
  | zero =>
    intro k i hi hk
    obtain ⟨k, rfl⟩ := step_k hk
    simp only [laws_heldIntS.l0]; rw [if_neg (by rw [marks_len]; omega)]
    congr 1; omega
  | succ d ih =>
    intro k i hi hk
    obtain ⟨k, rfl⟩ := step_k hk
    simp only [laws_heldIntS.l0]
    rw [if_pos (by rw [marks_len]; omega), if_pos (by omega), if_pos (marks_rd a n i (by omega)), w64s (by omega), w64 (n := a + (i : Int) + 1) (by omega) (by omega), show a + (i : Int) + 1 = a + ((i + 1 : Nat) : Int) by omega]
    exact ih k (i + 1) (by omega) (by omega)
theorem heldIntS_f {k n : Nat} {a : Int} (hn : n ≤ 100000000000000) (h0 : 0 ≤ a) (ha : a ≤ 100000000000000) (hk : n < k) : laws_heldIntS.f k (marks a n) a = some (a + n) := by
  unfold laws_heldIntS.f
  have := heldIntS_l0 n hn a h0 ha n k 0 (by omega) hk
  rw [show a + ((0 : Nat) : Int) = a by omega] at this
  exact this
def allFrom (l : List Int) (lo hi : Int) : Nat → Nat → Bool
  | _, 0 => true
  | i, d + 1 => inn (rd l i) lo hi && allFrom l lo hi (i + 1) d
def allIn (l : List Int) (lo hi : Int) : Bool := allFrom l lo hi 0 l.length
theorem allFrom_iff (l : List Int) (lo hi : Int) : ∀ d i, allFrom l lo hi i d = true ↔ ∀ j : Nat, i ≤ j → j < i + d → lo ≤ rd l j ∧ rd l j ≤ hi := by
  intro d
  induction d with
  | zero => intro i; simp only [allFrom, true_iff]; intro j h1 h2; omega
  | succ d ih =>
    intro i
    simp only [allFrom, Bool.and_eq_true, ih, inn_t]
    constructor
    · rintro ⟨h1, h3⟩ j hj hj2
      by_cases e : j = i
      · subst e; exact h1
      · exact h3 j (by omega) (by omega)
    · intro h
      exact ⟨h i (Nat.le_refl _) (by omega), fun j hj hj2 => h j (by omega) (by omega)⟩
theorem allIn_bd {l : List Int} {lo hi : Int} (h : allIn l lo hi = true) : ∀ x ∈ l, lo ≤ x ∧ x ≤ hi := by
  intro x hx
  obtain ⟨i, hi', rfl⟩ := List.mem_iff_getElem.1 hx
  have := (allFrom_iff l lo hi l.length 0).1 h i (by omega) (by omega)
  rw [rd_eq, List.getD_eq_getElem?_getD, List.getElem?_eq_getElem hi'] at this
  exact this
theorem allIn_of {l : List Int} {lo hi : Int} (h : ∀ x ∈ l, lo ≤ x ∧ x ≤ hi) : allIn l lo hi = true := (allFrom_iff l lo hi l.length 0).2 fun j _ hj => h _ (rd_mem l j (by omega))
theorem l1All_l0 (l : List Int) (lo hi : Int) (hn : l.length ≤ 100000000000000) (d : Nat) : ∀ (k i : Nat), i + d = l.length → d < k → spec_l1All.l0 k lo hi l (l.length : Int) i = some (allFrom l lo hi i d) := by
  induction d with
  | zero =>
    intro k i hi' hk
    obtain ⟨k, rfl⟩ := step_k hk
    simp only [spec_l1All.l0]; rw [if_neg (by omega)]; rfl
  | succ d ih =>
    intro k i hi' hk
    obtain ⟨k, rfl⟩ := step_k hk
    simp only [spec_l1All.l0, l1In_f, Option.bind_some]
    rw [if_pos (by omega), if_pos (by omega), if_pos (by omega), w64s (by omega), ih k (i + 1) (by omega) (by omega)]
    simp only [allFrom]
    by_cases h1 : inn (rd l i) lo hi = true
    · rw [if_pos h1, h1]; simp
    · rw [if_neg h1]; simp [h1]
theorem l1All_f {k : Nat} {l : List Int} {lo hi : Int} (hn : l.length ≤ 100000000000000) (hk : l.length < k) : spec_l1All.f k l lo hi = some (allIn l lo hi) := by
  unfold spec_l1All.f
  exact l1All_l0 l lo hi hn l.length k 0 (by omega) hk
theorem IndexFunc_l0 (l : List Int) (hn : l.length ≤ 100000000000000) (d : Nat) : ∀ (k i : Nat), i + d = l.length → d < k → ∃ r, slices_IndexFunc_int_int.l0 k l (l.length : Int) i = some r ∧ (0 ≤ r ↔ allFrom l 0 100000 i d = false) := by
  induction d with
  | zero =>
    intro k i hi' hk
    obtain ⟨k, rfl⟩ := step_k hk
    simp only [slices_IndexFunc_int_int.l0]
    rw [if_neg (by omega)]
    exact ⟨_, rfl, by simp [allFrom]⟩
  | succ d ih =>
    intro k i hi' hk
    obtain ⟨k, rfl⟩ := step_k hk
    obtain ⟨r, hr, hiff⟩ := ih k (i + 1) (by omega) (by omega)
    simp only [slices_IndexFunc_int_int.l0, impl_areCells_1.f, within_f, Option.bind_some]
    rw [if_pos (by omega), if_pos (by omega), if_pos (by omega), w64s (by omega)]
    simp only [allFrom]
    by_cases h1 : inn (rd l i) 0 100000 = true
    · rw [h1]
      simp only [Bool.not_true, Bool.false_eq_true, if_false, Bool.true_and]
      exact ⟨r, hr, hiff⟩
    · rw [Bool.eq_false_iff.2 h1]
      simp only [Bool.not_false, if_true, Bool.false_and]
      exact ⟨_, rfl, by simp⟩
theorem ContainsFunc_f {k : Nat} {l : List Int} {a : Int} (hn : l.length ≤ 100000000000000) (hk : l.length < k) : slices_ContainsFunc_int_int.f k l a = some (!allIn l 0 100000) := by
  unfold slices_ContainsFunc_int_int.f slices_IndexFunc_int_int.f
  obtain ⟨r, hr, hiff⟩ := IndexFunc_l0 l hn l.length k 0 (by omega) hk
  rw [show (0 : Int) = ((0 : Nat) : Int) from rfl, hr]
  simp only [Option.bind_some]
  congr 1
  unfold allIn
  rw [Bool.eq_iff_iff]
  simp only [decide_eq_true_eq, Bool.not_eq_true']
  exact hiff
def sumL : List Int → Int
  | [] => 0
  | x :: l => x + sumL l
theorem sumL_append (a b : List Int) : sumL (a ++ b) = sumL a + sumL b := by
  induction a with
  | nil => simp [sumL]
  | cons x a ih => simp only [List.cons_append, sumL, ih]; omega
theorem sumL_bd {l : List Int} {M : Int} (h : ∀ x ∈ l, 0 ≤ x ∧ x ≤ M) : 0 ≤ sumL l ∧ sumL l ≤ M * l.length := by
  induction l with
  | nil => simp [sumL]
  | cons x l ih =>
    have h1 := h x (by simp)
    have h2 := ih fun y hy => h y (by simp [hy])
    simp only [sumL, List.length_cons]
    have : M * ((l.length + 1 : Nat) : Int) = M * l.length + M := by rw [Int.natCast_add, Int.mul_add]; simp
    omega
theorem drop_rd (l : List Int) (i : Nat) (h : i < l.length) : l.drop i = rd l i :: l.drop (i + 1) := by
  rw [List.drop_eq_getElem_cons h]
  congr 1
  rw [rd_eq, List.getD_eq_getElem?_getD, List.getElem?_eq_getElem h]; rfl
def sabs : List Int → Int
  | [] => 0
  | x :: l => (if x < 0 then -x else x) + sabs l
theorem sabs_nn (l : List Int) : 0 ≤ sabs l := by
  induction l with
  | nil => simp [sabs]
  | cons x l ih => simp only [sabs]; split <;> omega
theorem sabs_append (a b : List Int) : sabs (a ++ b) = sabs a + sabs b := by
  induction a with
  | nil => simp [sabs]
  | cons x a ih => simp only [List.cons_append, sabs, ih]; omega
theorem sabs_drop (l : List Int) (i : Nat) : sabs (l.drop i) ≤ sabs l := by
  have h := sabs_append (l.take i) (l.drop i)
  rw [List.take_append_drop] at h
  have := sabs_nn (l.take i)
  omega
theorem sabs_take (l : List Int) (i : Nat) : sabs (l.take i) ≤ sabs l := by
  have h := sabs_append (l.take i) (l.drop i)
  rw [List.take_append_drop] at h
  have := sabs_nn (l.drop i)
  omega
theorem sumL_abs (l : List Int) : -sabs l ≤ sumL l ∧ sumL l ≤ sabs l := by
  induction l with
  | nil => simp [sabs, sumL]
  | cons x l ih => simp only [sabs, sumL]; split <;> omega
theorem sabs_bd {l : List Int} {M : Int} (h : ∀ x ∈ l, 0 ≤ x ∧ x ≤ M) : sabs l ≤ M * l.length := by
  induction l with
  | nil => simp [sabs]
  | cons x l ih =>
    have h1 := h x (by simp)
    have h2 := ih fun y hy => h y (by simp [hy])
    simp only [sabs, List.length_cons]
    have : M * ((l.length + 1 : Nat) : Int) = M * l.length + M := by rw [Int.natCast_add, Int.mul_add]; simp
    rw [if_neg (by omega)]
    omega
theorem spec_l1Sum_l0 (l : List Int) (hn : l.length ≤ 1000000) (d : Nat) : ∀ (k i : Nat) (acc : Int), sabs (l.drop i) - 1000000000000000000 ≤ acc → acc ≤ 1000000000000000000 - sabs (l.drop i) → i + d = l.length → d < k → spec_l1Sum.l0 k acc l (l.length : Int) i = some (acc + sumL (l.drop i)) := by
  induction d with
  | zero =>
    intro k i acc _ _ hi' hk
    obtain ⟨k, rfl⟩ := step_k hk
    simp only [spec_l1Sum.l0]; rw [if_neg (by omega), List.drop_eq_nil_of_le (by omega)]; simp [sumL]
  | succ d ih =>
    intro k i acc h0 h1 hi' hk
    obtain ⟨k, rfl⟩ := step_k hk
    rw [drop_rd l i (by omega)] at h0 h1
    simp only [sabs] at h0 h1
    have hb := sabs_nn (l.drop (i + 1))
    have hc : -(if rd l i < 0 then -rd l i else rd l i) ≤ rd l i ∧ rd l i ≤ (if rd l i < 0 then -rd l i else rd l i) := by split <;> omega
    simp only [spec_l1Sum.l0]
    rw [if_pos (by omega), if_pos (by omega), if_pos (by omega), w64s (by omega), w64 (n := acc + rd l i) (by omega) (by omega), ih k (i + 1) _ (by omega) (by omega) (by omega) (by omega), drop_rd l i (by omega)]
    simp only [sumL]
    congr 1; omega
theorem spec_l1Sum_f {k : Nat} {l : List Int} (h : sabs l ≤ 1000000000000000000) (hn : l.length ≤ 1000000) (hk : l.length < k) : spec_l1Sum.f k l = some (sumL l) := by
  unfold spec_l1Sum.f
  have := spec_l1Sum_l0 l hn l.length k 0 0 (by simp only [List.drop_zero]; omega) (by simp only [List.drop_zero]; omega) (by omega) hk
  simpa using this
theorem impl_sumOf_l0 (l : List Int) (hn : l.length ≤ 1000000) (d : Nat) : ∀ (k i : Nat) (acc : Int), sabs (l.drop i) - 1000000000000000000 ≤ acc → acc ≤ 1000000000000000000 - sabs (l.drop i) → i + d = l.length → d < k → impl_sumOf.l0 k acc l (l.length : Int) i = some (acc + sumL (l.drop i)) := by
  induction d with
  | zero =>
    intro k i acc _ _ hi' hk
    obtain ⟨k, rfl⟩ := step_k hk
    simp only [impl_sumOf.l0]; rw [if_neg (by omega), List.drop_eq_nil_of_le (by omega)]; simp [sumL]
  | succ d ih =>
    intro k i acc h0 h1 hi' hk
    obtain ⟨k, rfl⟩ := step_k hk
    rw [drop_rd l i (by omega)] at h0 h1
    simp only [sabs] at h0 h1
    have hb := sabs_nn (l.drop (i + 1))
    have hc : -(if rd l i < 0 then -rd l i else rd l i) ≤ rd l i ∧ rd l i ≤ (if rd l i < 0 then -rd l i else rd l i) := by split <;> omega
    simp only [impl_sumOf.l0]
    rw [if_pos (by omega), if_pos (by omega), if_pos (by omega), w64s (by omega), w64 (n := acc + rd l i) (by omega) (by omega), ih k (i + 1) _ (by omega) (by omega) (by omega) (by omega), drop_rd l i (by omega)]
    simp only [sumL]
    congr 1; omega
theorem impl_sumOf_f {k : Nat} {l : List Int} (h : sabs l ≤ 1000000000000000000) (hn : l.length ≤ 1000000) (hk : l.length < k) : impl_sumOf.f k l = some (sumL l) := by
  unfold impl_sumOf.f
  have := impl_sumOf_l0 l hn l.length k 0 0 (by simp only [List.drop_zero]; omega) (by simp only [List.drop_zero]; omega) (by omega) hk
  simpa using this
def loE (i : Nat) : Int := wrap64 ((wrap64 ((i : Int) + 1)) - (Go.bits .and .i64 (wrap64 ((i : Int) + 1)) (wrap64 (-(wrap64 ((i : Int) + 1))))))
def lo (i : Nat) : Nat := (loE i).toNat
theorem lo_all : ∀ i : Fin 32, 0 ≤ loE i.1 ∧ loE i.1 ≤ (i.1 : Int) := by decide +kernel
theorem lo_eq {i : Nat} (h : i < 32) : wrap64 ((wrap64 ((i : Int) + 1)) - (Go.bits .and .i64 (wrap64 ((i : Int) + 1)) (wrap64 (-(wrap64 ((i : Int) + 1)))))) = (lo i : Int) := by
  have := lo_all ⟨i, h⟩
  show loE i = _
  unfold lo
  simp only at this
  omega
theorem lo_le {i : Nat} (h : i < 32) : lo i ≤ i := by
  have := lo_all ⟨i, h⟩
  unfold lo
  simp only at this
  omega
attribute [irreducible] lo
def cellL (x : List Int) : List Int := (List.range x.length).map fun i => sumL ((x.take (i + 1)).drop (lo i))
theorem cellL_len (x : List Int) : (cellL x).length = x.length := by simp [cellL]
theorem cellL_at (x : List Int) (i : Nat) (h : i < x.length) : (cellL x)[i]? = some (sumL ((x.take (i + 1)).drop (lo i))) := by
  simp [cellL, h]
theorem seg_abs (x : List Int) (a b : Nat) (h : sabs x ≤ 1000000000000000000) : sabs ((x.take a).drop b) ≤ 1000000000000000000 := by
  have := sabs_drop (x.take a) b
  have := sabs_take x a
  omega
theorem cellsOf_l0 (l : List Int) (hs : sabs l ≤ 1000000000000000000) (hn : l.length ≤ 32) (d : Nat) : ∀ (k : Nat) (x : List Int) (i : Nat), x.length = l.length → i + d = l.length → d + 40 < k → (∀ j, j < i → x[j]? = (cellL l)[j]?) →
    impl_cellsOf.l0 k l x (l.length : Int) i = some (cellL l) := by
  induction d with
  | zero =>
    intro k x i hx hi hk hp
    obtain ⟨k, rfl⟩ : ∃ m, k = m + 1 := ⟨k - 1, by omega⟩
    simp only [impl_cellsOf.l0]; rw [if_neg (by omega)]
    congr 1
    apply List.ext_getElem?
    intro j
    by_cases h : j < i
    · exact hp j h
    · rw [List.getElem?_eq_none (by omega), List.getElem?_eq_none (by rw [cellL_len]; omega)]
  | succ d ih =>
    intro k x i hx hi hk hp
    obtain ⟨k, rfl⟩ : ∃ m, k = m + 1 := ⟨k - 1, by omega⟩
    have hlo := lo_le (i := i) (by omega)
    simp only [impl_cellsOf.l0]
    rw [lo_eq (by omega), w64s (by omega), if_pos (by omega), if_pos (by omega), if_pos (by omega), if_pos (by omega), Int.toNat_natCast, Int.toNat_natCast, impl_sumOf_f (seg_abs l _ _ hs) (by simp; omega) (by simp; omega)]
    simp only [Option.bind_some]
    rw [if_pos (by omega), if_pos (by omega)]
    refine ih k _ (i + 1) (by simpa using hx) (by omega) (by omega) ?_
    intro j hj
    rw [Int.toNat_natCast, List.getElem?_set]
    by_cases h : i = j
    · subst h
      rw [if_pos rfl, if_pos (by omega), cellL_at l i (by omega)]
    · rw [if_neg h]; exact hp j (by omega)
theorem cellsOf_f {k : Nat} {l : List Int} (hs : sabs l ≤ 1000000000000000000) (hn : l.length ≤ 32) (hk : 80 < k) : impl_cellsOf.f k l = some (cellL l) := by
  unfold impl_cellsOf.f
  rw [if_pos (by omega), if_pos (by omega)]
  exact cellsOf_l0 l hs hn l.length k _ 0 (by simp) (by omega) (by omega) (by intro j hj; omega)
theorem appAt {x c : List Int} {i : Nat} {v : Int} (hx : x.length = i) (hv : c[i]? = some v) (hp : ∀ j, j < i → x[j]? = c[j]?) : ∀ j, j < i + 1 → (x ++ [v])[j]? = c[j]? := by
  intro j hj
  by_cases h : j = i
  · subst h
    rw [hv, List.getElem?_append_right (by omega), hx]; simp
  · rw [List.getElem?_append_left (by omega)]; exact hp j (by omega)
theorem l5Of_l0 (l : List Int) (hs : sabs l ≤ 1000000000000000000) (hn : l.length ≤ 32) (d : Nat) : ∀ (k : Nat) (x : List Int) (i : Nat), x.length = i → i + d = l.length → d + 40 < k → (∀ j, j < i → x[j]? = (cellL l)[j]?) →
    spec_l5Of.l0 k l (l.length : Int) i x = some (cellL l) := by
  induction d with
  | zero =>
    intro k x i hx hi hk hp
    obtain ⟨k, rfl⟩ : ∃ m, k = m + 1 := ⟨k - 1, by omega⟩
    simp only [spec_l5Of.l0]; rw [if_neg (by omega)]
    congr 1
    apply List.ext_getElem?
    intro j
    by_cases h : j < i
    · exact hp j h
    · rw [List.getElem?_eq_none (by omega), List.getElem?_eq_none (by rw [cellL_len]; omega)]
  | succ d ih =>
    intro k x i hx hi hk hp
    obtain ⟨k, rfl⟩ : ∃ m, k = m + 1 := ⟨k - 1, by omega⟩
    have hlo := lo_le (i := i) (by omega)
    simp only [spec_l5Of.l0]
    rw [lo_eq (by omega), w64s (by omega), if_pos (by omega), if_pos (by omega), if_pos (by omega), if_pos (by omega), Int.toNat_natCast, Int.toNat_natCast, spec_l1Sum_f (seg_abs l _ _ hs) (by simp; omega) (by simp; omega)]
    simp only [Option.bind_some]
    have hxl : x.length < 17592186044416 := Nat.lt_of_le_of_lt (Nat.le_of_eq hx) (Nat.lt_of_le_of_lt (Nat.le_trans (Nat.le_add_right i (d + 1)) (Nat.le_of_eq hi)) (Nat.lt_of_le_of_lt hn (by decide)))
    rw [if_pos hxl]
    refine ih k _ (i + 1) (by rw [List.length_append, hx]; rfl) (by omega) (by omega) ?_
    intro j hj
    exact appAt hx (cellL_at l i (by omega)) hp j hj
theorem l5Of_f {k : Nat} {l : List Int} (hs : sabs l ≤ 1000000000000000000) (hn : l.length ≤ 32) (hk : 80 < k) : spec_l5Of.f k l = some (cellL l) := by
  unfold spec_l5Of.f
  exact l5Of_l0 l hs hn l.length k _ 0 (by simp) (by omega) (by omega) (by intro j hj; omega)
def okC (l : List Int) : Bool := inn (l.length : Int) 1 32 && allIn l 0 100000
theorem okC_len {l : List Int} (h : okC l = true) : 1 ≤ l.length ∧ l.length ≤ 32 := by
  simp only [okC, Bool.and_eq_true, inn_t] at h; omega
theorem okC_bd {l : List Int} (h : okC l = true) : ∀ x ∈ l, 0 ≤ x ∧ x ≤ 100000 := by
  simp only [okC, Bool.and_eq_true] at h; exact allIn_bd h.2
theorem okC_abs {l : List Int} (h : okC l = true) : sabs l ≤ 1000000000000000000 := by
  have h1 := sabs_bd (okC_bd h)
  have h2 := okC_len h
  omega
theorem l5List_f {k : Nat} {l : List Int} (hn : l.length ≤ 100000000000000) (hk : l.length < k) : spec_l5List.f k l = some (okC l) := by
  unfold spec_l5List.f okC
  simp (disch := assumption) only [l1In_f, l1All_f, Option.bind_some]
  by_cases h : inn (l.length : Int) 1 32 = true
  · rw [if_pos h, h, Bool.true_and]
  · rw [if_neg h]; simp [h]
theorem areCells_f {k : Nat} {l : List Int} (hn : l.length ≤ 100000000000000) (hk : 50 < k) : impl_areCells.f k l = some (okC l) := by
  unfold impl_areCells.f okC
  simp only [within_f, Option.bind_some]
  by_cases h : inn (l.length : Int) 1 32 = true
  · have h2 := inn_t.1 h
    rw [if_pos h, h, Bool.true_and, ContainsFunc_f hn (by omega)]
    simp
  · rw [if_neg h]; simp [h]
theorem eqSums_f {k : Nat} {l : List Int} (hn : l.length ≤ 100000000000000) (hk : l.length < k) : laws_eqSums.f k l l = some true := by
  unfold laws_eqSums.f; rw [eqIntS_f hn hk]; rfl
theorem markSums_f {k : Nat} {l : List Int} {a : Int} (hn : l.length ≤ 100000000000000) (h0 : 0 ≤ a) (ha : a ≤ 100000000000000) (hk : l.length < k) : laws_markSums.f k l a = some (a + l.length, marks a l.length) := by
  unfold laws_markSums.f; rw [markIntS_f hn h0 ha hk]; rfl
theorem heldSums_f {k n : Nat} {a : Int} (hn : n ≤ 100000000000000) (h0 : 0 ≤ a) (ha : a ≤ 100000000000000) (hk : n < k) : laws_heldSums.f k (marks a n) a = some (a + n) := by
  unfold laws_heldSums.f; rw [heldIntS_f hn h0 ha hk]
  simp only [Option.bind_some]
  rw [if_neg (by omega)]
def sumsRes (l : List Int) : List Int × Bool := if okC l then (cellL l, true) else ([], false)
theorem sumsRes_len (l : List Int) : (sumsRes l).1.length ≤ 32 := by
  unfold sumsRes
  split
  · rename_i h
    have := okC_len h
    show (cellL l).length ≤ 32
    rw [cellL_len]; omega
  · simp
theorem spec_SumsOf_f {k : Nat} {l : List Int} (hn : l.length ≤ 1048576) (hk : 1048700 < k) : spec_SumsOf.f k l = some (sumsRes l) := by
  unfold spec_SumsOf.f sumsRes
  rw [l5List_f (by omega) (by omega)]
  simp only [Option.bind_some]
  by_cases h : okC l = true
  · rw [if_pos h, if_pos h, l5Of_f (okC_abs h) (okC_len h).2 (by omega)]; rfl
  · rw [if_neg h, if_neg h]
theorem impl_SumsOf_f {k : Nat} {l : List Int} (hn : l.length ≤ 1048576) (hk : 1048700 < k) : impl_SumsOf.f k l = some (sumsRes l) := by
  unfold impl_SumsOf.f sumsRes
  rw [areCells_f (by omega) (by omega)]
  simp only [Option.bind_some]
  by_cases h : okC l = true
  · rw [if_pos h, if_pos h, cellsOf_f (okC_abs h) (okC_len h).2 (by omega)]; rfl
  · rw [if_neg h, if_neg h]
theorem FnExactSumsOf : ∀ (l0 : List (Int)), l0.length * 8 ≤ 140737488351232 → (∀ v ∈ l0, (Lit.int .i64 v).wf = true) → ∃ k, laws_FnExactSumsOf.f k l0 = some true := by
  intro l
  intros
  suffices h : ∀ k, 1248990 ≤ k → laws_FnExactSumsOf.f k l = some true from ⟨_, h _ (Nat.le_refl _)⟩
  intro k hk
  unfold laws_FnExactSumsOf.f
  by_cases h : (l.length : Int) > 1048576
  · rw [if_pos h]
  · rw [if_neg h]
    obtain ⟨m, hm1, hm2⟩ : ∃ m, k = m + 3 ∧ 1248980 ≤ m := ⟨k - 3, by omega, by omega⟩
    rw [hm1]
    have hl2 := sumsRes_len l
    have hneg : (1 + ((sumsRes l).1.length : Int) < 0) = False := eq_false (by omega)
    simp (disch := omega) only [toIntS_f, spec_SumsOf_f, impl_SumsOf_f, eqIntS_f, eqSums_f, markIntS_f, Option.bind_some, bne_self_eq_false, laws_FnExactSumsOf.j0, Bool.false_eq_true, if_false, if_true]
    rw [if_neg (by omega)]
    simp (disch := omega) only [toIntS_f, impl_SumsOf_f, eqSums_f, markSums_f, heldSums_f, Option.bind_some, bne_self_eq_false, laws_FnExactSumsOf.j1, laws_FnExactSumsOf.j2, Bool.false_eq_true, if_false, if_true, hneg]

end Go.Proofs.Ytdjdkabblfccjaa.Pure
