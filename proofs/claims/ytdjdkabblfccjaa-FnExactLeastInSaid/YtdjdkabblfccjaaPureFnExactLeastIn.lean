/- The program's LeastIn and the reference's return the same at every table and every two integers, and leave the table as it is. No condition. -/
import Derived.Test.YtdjdkabblfccjaaPFnExactLeastInx0
import Derived.Test.YtdjdkabblfccjaaPFnExactLeastInx1
import Derived.Test.YtdjdkabblfccjaaPFnExactLeastInx2
import Derived.Test.YtdjdkabblfccjaaPFnExactLeastInx3
import Derived.Test.YtdjdkabblfccjaaPFnExactLeastInx4
import Derived.Test.YtdjdkabblfccjaaPFnExactLeastInx5
namespace Go.Proofs.Ytdjdkabblfccjaa.Pure
open Go.RowKit Go.Proofs.Ytdjdkabblfccjaa.PFnExactLeastIn Go.Proofs.YtdjdkabblfccjaaW.PrintWords Go.Proofs.YtdjdkabblfccjaaW.PrintLast Go.Proofs.YtdjdkabblfccjaaW.PrintMore
set_option linter.unusedVariables false
set_option linter.unusedSimpArgs false
theorem w64 {n : Int} (h0 : -9223372036854775808 ≤ n) (h1 : n ≤ 9223372036854775807) : wrap64 n = n := by unfold wrap64; omega
theorem w64s {i : Nat} (h1 : i ≤ 1000000000000000) : wrap64 ((i : Int) + 1) = ((i + 1 : Nat) : Int) := by rw [w64 (by omega) (by omega)]; omega
theorem rd_eq (l : List Int) (i : Nat) : rd l (i : Int) = l.getD i 0 := by simp [rd]
theorem rd_get (l : List Int) (i : Nat) (h : i < l.length) : l[i]? = some (rd l (i : Int)) := by
  simp [rd, List.getD_eq_getElem?_getD, List.getElem?_eq_getElem h]
theorem rd_mem (l : List Int) (i : Nat) (h : i < l.length) : rd l (i : Int) ∈ l := List.mem_of_getElem? (rd_get l i h)
theorem step_k {k d : Nat} (h : d < k) : ∃ m, k = m + 1 := ⟨k - 1, by omega⟩
def inn (a b c : Int) : Bool := decide (b ≤ a ∧ a ≤ c)
theorem inn_t {a b c : Int} : inn a b c = true ↔ b ≤ a ∧ a ≤ c := by simp [inn]
theorem inn_f {a b c : Int} : inn a b c = false ↔ a < b ∨ c < a := by simp [inn]; omega
theorem l1In_f (a b c : Int) : spec_l1In.f a b c = some (inn a b c) := by
  unfold spec_l1In.f inn
  by_cases h : a ≥ b
  · rw [if_pos h]; simp [show b ≤ a from h]
  · rw [if_neg h]; simp [show ¬ b ≤ a from h]
theorem within_f (a b c : Int) : impl_within.f a b c = some (inn a b c) := by
  unfold impl_within.f inn
  by_cases h : a ≥ b
  · rw [if_pos h]; simp [show b ≤ a from h]
  · rw [if_neg h]; simp [show ¬ b ≤ a from h]
theorem i64_bd {v : Int} (h : (Lit.int .i64 v).wf = true) : -9223372036854775808 ≤ v ∧ v ≤ 9223372036854775807 := by
  simp [Lit.wf, IntKind.min, IntKind.max, IntKind.signed, IntKind.bits] at h
  exact h
theorem eqIntS_l0 (l : List Int) (hn : l.length ≤ 100000000000000) (d : Nat) : ∀ (k i : Nat), i + d = l.length → d < k → laws_eqIntS.l0 k l l i = some true := by
  induction d with
  | zero =>
    intro k i hi hk
    obtain ⟨k, rfl⟩ := step_k hk
    simp only [laws_eqIntS.l0]; rw [if_neg (by omega)]
  | succ d ih =>
    intro k i hi hk
    obtain ⟨k, rfl⟩ := step_k hk
    simp only [laws_eqIntS.l0]
    rw [if_pos (by omega), if_pos (by omega), if_pos (by omega), if_true, w64s (by omega)]
    exact ih k (i + 1) (by omega) (by omega)
theorem eqIntS_f {k : Nat} {l : List Int} (hn : l.length ≤ 100000000000000) (hk : l.length < k) : laws_eqIntS.f k l l = some true := by
  unfold laws_eqIntS.f
  rw [if_pos rfl]
  exact eqIntS_l0 l hn l.length k 0 (by omega) hk
theorem toIntS_l0 (l : List Int) (hn : l.length ≤ 100000000000000) (d : Nat) : ∀ (k : Nat) (x : List Int) (i : Nat), x.length = l.length → i + d = l.length → d < k → (∀ j, j < i → x[j]? = l[j]?) →
    laws_toIntS.l0 k l x i = some l := by
  induction d with
  | zero =>
    intro k x i hx hi hk hp
    obtain ⟨k, rfl⟩ := step_k hk
    simp only [laws_toIntS.l0]; rw [if_neg (by omega)]
    congr 1
    apply List.ext_getElem?
    intro j
    by_cases h : j < i
    · exact hp j h
    · rw [List.getElem?_eq_none (by omega), List.getElem?_eq_none (by omega)]
  | succ d ih =>
    intro k x i hx hi hk hp
    obtain ⟨k, rfl⟩ := step_k hk
    simp only [laws_toIntS.l0]
    rw [if_pos (by omega), if_pos (by omega), if_pos (by omega), w64s (by omega)]
    refine ih k _ (i + 1) (by simpa using hx) (by omega) (by omega) ?_
    intro j hj
    rw [Int.toNat_natCast, List.getElem?_set]
    by_cases h : i = j
    · subst h
      rw [if_pos rfl, if_pos (by omega)]
      exact (rd_get l i (by omega)).symm
    · rw [if_neg h]; exact hp j (by omega)
theorem toIntS_f {k : Nat} {l : List Int} (hn : l.length ≤ 35184372088832) (hk : l.length < k) : laws_toIntS.f k l = some l := by
  unfold laws_toIntS.f
  rw [if_pos (by omega), if_pos (by omega)]
  exact toIntS_l0 l (by omega) l.length k _ 0 (by simp) (by omega) hk (by intro j hj; omega)
theorem rdS_get (l : List (List Int)) (i : Nat) (h : i < l.length) : l[i]? = some (rd_L1 l (i : Int)) := by
  simp [rd_L1, List.getD_eq_getElem?_getD, List.getElem?_eq_getElem h]
theorem rdS_mem (l : List (List Int)) (i : Nat) (h : i < l.length) : rd_L1 l (i : Int) ∈ l := List.mem_of_getElem? (rdS_get l i h)
theorem rdS_mid (pre : List (List Int)) (x : List Int) (post : List (List Int)) : rd_L1 (pre ++ x :: post) (pre.length : Int) = x := by
  simp [rd_L1, List.getD_eq_getElem?_getD]
theorem set_mid (pre : List (List Int)) (x y : List Int) (post : List (List Int)) : (pre ++ x :: post).set pre.length y = pre ++ y :: post := by
  induction pre with
  | nil => rfl
  | cons a pre ih => simp [ih]
theorem eqIntSS_l0 (l : List (List Int)) (R : Nat) (hl : ∀ x ∈ l, x.length ≤ R) (hR : R ≤ 100000) (hn : l.length ≤ 100000) (d : Nat) : ∀ (k i : Nat), i + d = l.length → d + R + 1 < k → laws_eqIntSS.l0 k l l i = some true := by
  induction d with
  | zero =>
    intro k i hi hk
    obtain ⟨k, rfl⟩ : ∃ m, k = m + 1 := ⟨k - 1, by omega⟩
    simp only [laws_eqIntSS.l0]; rw [if_neg (by omega)]
  | succ d ih =>
    intro k i hi hk
    obtain ⟨k, rfl⟩ : ∃ m, k = m + 1 := ⟨k - 1, by omega⟩
    have hx := hl _ (rdS_mem l i (by omega))
    simp only [laws_eqIntSS.l0]
    rw [if_pos (by omega), if_pos (by omega), if_pos (by omega), eqIntS_f (by omega) (by omega)]
    simp only [Option.bind_some, if_true]
    rw [w64s (by omega)]
    exact ih k (i + 1) (by omega) (by omega)
theorem eqIntSS_f {k R : Nat} {l : List (List Int)} (hl : ∀ x ∈ l, x.length ≤ R) (hR : R ≤ 100000) (hn : l.length ≤ 100000) (hk : l.length + R + 1 < k) : laws_eqIntSS.f k l l = some true := by
  unfold laws_eqIntSS.f
  rw [if_pos rfl]
  exact eqIntSS_l0 l R hl hR hn l.length k 0 (by omega) hk
def tot : List (List Int) → Nat
  | [] => 0
  | x :: xs => x.length + tot xs
def allFrom (l : List Int) (lo hi : Int) : Nat → Nat → Bool
  | _, 0 => true
  | i, d + 1 => inn (rd l i) lo hi && allFrom l lo hi (i + 1) d
def allIn (l : List Int) (lo hi : Int) : Bool := allFrom l lo hi 0 l.length
theorem allFrom_iff (l : List Int) (lo hi : Int) : ∀ d i, allFrom l lo hi i d = true ↔ ∀ j : Nat, i ≤ j → j < i + d → lo ≤ rd l j ∧ rd l j ≤ hi := by
  intro d
  induction d with
  | zero => intro i; simp only [allFrom, true_iff]; intro j h1 h2; omega
  | succ d ih =>
    intro i
    simp only [allFrom, Bool.and_eq_true, ih, inn_t]
    constructor
    · rintro ⟨h1, h3⟩ j hj hj2
      by_cases e : j = i
      · subst e; exact h1
      · exact h3 j (by omega) (by omega)
    · intro h
      exact ⟨h i (Nat.le_refl _) (by omega), fun j hj hj2 => h j (by omega) (by omega)⟩
theorem allIn_bd {l : List Int} {lo hi : Int} (h : allIn l lo hi = true) : ∀ x ∈ l, lo ≤ x ∧ x ≤ hi := by
  intro x hx
  obtain ⟨i, hi', rfl⟩ := List.mem_iff_getElem.1 hx
  have := (allFrom_iff l lo hi l.length 0).1 h i (by omega) (by omega)
  rw [rd_eq, List.getD_eq_getElem?_getD, List.getElem?_eq_getElem hi'] at this
  exact this
theorem allIn_of {l : List Int} {lo hi : Int} (h : ∀ x ∈ l, lo ≤ x ∧ x ≤ hi) : allIn l lo hi = true := (allFrom_iff l lo hi l.length 0).2 fun j _ hj => h _ (rd_mem l j (by omega))
theorem l1All_l0 (l : List Int) (lo hi : Int) (hn : l.length ≤ 100000000000000) (d : Nat) : ∀ (k i : Nat), i + d = l.length → d < k → spec_l1All.l0 k lo hi l (l.length : Int) i = some (allFrom l lo hi i d) := by
  induction d with
  | zero =>
    intro k i hi' hk
    obtain ⟨k, rfl⟩ := step_k hk
    simp only [spec_l1All.l0]; rw [if_neg (by omega)]; rfl
  | succ d ih =>
    intro k i hi' hk
    obtain ⟨k, rfl⟩ := step_k hk
    simp only [spec_l1All.l0, l1In_f, Option.bind_some]
    rw [if_pos (by omega), if_pos (by omega), if_pos (by omega), w64s (by omega), ih k (i + 1) (by omega) (by omega)]
    simp only [allFrom]
    by_cases h1 : inn (rd l i) lo hi = true
    · rw [if_pos h1, h1]; simp
    · rw [if_neg h1]; simp [h1]
theorem l1All_f {k : Nat} {l : List Int} {lo hi : Int} (hn : l.length ≤ 100000000000000) (hk : l.length < k) : spec_l1All.f k l lo hi = some (allIn l lo hi) := by
  unfold spec_l1All.f
  exact l1All_l0 l lo hi hn l.length k 0 (by omega) hk
theorem IndexFunc_l0 (l : List Int) (hn : l.length ≤ 100000000000000) (d : Nat) : ∀ (k i : Nat), i + d = l.length → d < k → ∃ r, slices_IndexFunc_int_int.l0 k l (l.length : Int) i = some r ∧ (0 ≤ r ↔ allFrom l 0 100000 i d = false) := by
  induction d with
  | zero =>
    intro k i hi' hk
    obtain ⟨k, rfl⟩ := step_k hk
    simp only [slices_IndexFunc_int_int.l0]
    rw [if_neg (by omega)]
    exact ⟨_, rfl, by simp [allFrom]⟩
  | succ d ih =>
    intro k i hi' hk
    obtain ⟨k, rfl⟩ := step_k hk
    obtain ⟨r, hr, hiff⟩ := ih k (i + 1) (by omega) (by omega)
    simp only [slices_IndexFunc_int_int.l0, impl_SparseOf_1.f, within_f, Option.bind_some]
    rw [if_pos (by omega), if_pos (by omega), if_pos (by omega), w64s (by omega)]
    simp only [allFrom]
    by_cases h1 : inn (rd l i) 0 100000 = true
    · rw [h1]
      simp only [Bool.not_true, Bool.false_eq_true, if_false, Bool.true_and]
      exact ⟨r, hr, hiff⟩
    · rw [Bool.eq_false_iff.2 h1]
      simp only [Bool.not_false, if_true, Bool.false_and]
      exact ⟨_, rfl, by simp⟩
theorem ContainsFunc_f {k : Nat} {l : List Int} {a : Int} (hn : l.length ≤ 100000000000000) (hk : l.length < k) : slices_ContainsFunc_int_int.f k l a = some (!allIn l 0 100000) := by
  unfold slices_ContainsFunc_int_int.f slices_IndexFunc_int_int.f
  obtain ⟨r, hr, hiff⟩ := IndexFunc_l0 l hn l.length k 0 (by omega) hk
  rw [show (0 : Int) = ((0 : Nat) : Int) from rfl, hr]
  simp only [Option.bind_some]
  congr 1
  unfold allIn
  rw [Bool.eq_iff_iff]
  simp only [decide_eq_true_eq, Bool.not_eq_true']
  exact hiff
def lesser (a b : Int) : Int := if a < b then a else b
theorem lesser_assoc (a b c : Int) : lesser (lesser a b) c = lesser a (lesser b c) := by unfold lesser; split <;> split <;> (try split) <;> omega
theorem l1Least_f (a b : Int) : spec_l1Least.f a b = some (lesser a b) := by
  unfold spec_l1Least.f lesser
  split <;> rfl
theorem mn_lesser (a b : Int) : mn a b = lesser a b := by unfold mn lesser; split <;> (try split) <;> omega
/-- The least of the n + 1 numbers from the i-th on. -/
def wm (l : List Int) (i : Nat) : Nat → Int
  | 0 => rd l (i : Int)
  | n + 1 => lesser (wm l i n) (rd l ((i + n + 1 : Nat) : Int))
theorem wm_two (l : List Int) (i a : Nat) : ∀ b, wm l i (a + b + 1) = lesser (wm l i a) (wm l (i + a + 1) b) := by
  intro b
  induction b with
  | zero => rfl
  | succ b ih =>
    show lesser (wm l i (a + b + 1)) (rd l ((i + (a + b + 1) + 1 : Nat) : Int)) = lesser (wm l i a) (lesser (wm l (i + a + 1) b) (rd l ((i + a + 1 + b + 1 : Nat) : Int)))
    rw [ih, lesser_assoc, show i + (a + b + 1) + 1 = i + a + 1 + b + 1 by omega]
def rowTo (l : List Int) (m i : Nat) : List Int := (List.range i).map fun j : Nat => wm l j (m - 1)
theorem rowTo_len (l : List Int) (m i : Nat) : (rowTo l m i).length = i := by simp [rowTo]
theorem rowTo_succ (l : List Int) (m i : Nat) : rowTo l m (i + 1) = rowTo l m i ++ [wm l i (m - 1)] := by simp [rowTo, List.range_succ]
theorem rowTo_rd (l : List Int) (m i j : Nat) (h : j < i) : rd (rowTo l m i) (j : Int) = wm l j (m - 1) := by
  simp [rowTo, rd, List.getD_eq_getElem?_getD, h]
def rowOf (l : List Int) (m : Nat) : List Int := rowTo l m (l.length - m + 1)
theorem rowOf_one (l : List Int) (h : 1 ≤ l.length) : rowOf l 1 = l := by
  unfold rowOf rowTo
  apply List.ext_getElem?
  intro j
  by_cases hj : j < l.length
  · rw [rd_get l j hj]
    simp only [List.getElem?_map]
    rw [List.getElem?_range (by omega)]
    rfl
  · rw [List.getElem?_eq_none (by simp; omega), List.getElem?_eq_none (by omega)]
/-- The rows for m, 2m, 4m, .. -/
def tabl (l : List Int) : Nat → Nat → List (List Int)
  | 0, _ => []
  | f + 1, m => if m ≤ l.length then rowOf l m :: tabl l f (2 * m) else []
theorem tabl_len (l : List Int) : ∀ f m, (tabl l f m).length ≤ f := by
  intro f
  induction f with
  | zero => intro m; simp [tabl]
  | succ f ih =>
    intro m
    simp only [tabl]
    split
    · have := ih (2 * m); simp only [List.length_cons]; omega
    · simp
theorem tabl_rows (l : List Int) : ∀ f m, ∀ x ∈ tabl l f m, x.length ≤ l.length + 1 := by
  intro f
  induction f with
  | zero => intro m; simp [tabl]
  | succ f ih =>
    intro m x hx
    simp only [tabl] at hx
    split at hx
    · rcases List.mem_cons.1 hx with rfl | h
      · unfold rowOf; rw [rowTo_len]; omega
      · exact ih _ x h
    · simp at hx
def table (l : List Int) : List (List Int) := tabl l (l.length + 1) 1
theorem tdiv2 (h : Nat) : Int.tdiv ((2 * h : Nat) : Int) 2 = (h : Int) := by
  rw [Int.tdiv_eq_ediv_of_nonneg (by omega)]; omega
theorem spec_l4Sparse_l1 {l : List Int} (hl : l.length ≤ 60) (x3 : List (List Int)) (h3 : x3.length ≤ 1000) (h : Nat) (hh : 1 ≤ h) (hm : 2 * h ≤ l.length) (K : Nat) (R : Option (List (List Int)))
    (hR : ∀ k', K < k' → spec_l4Sparse.l0 k' l (x3 ++ [rowOf l (2 * h)]) ((2 * (2 * h) : Nat) : Int) = R) :
    ∀ (d i k : Nat), i + d = l.length - 2 * h + 1 → K + d + 1 < k → spec_l4Sparse.l1 k l x3 ((2 * h : Nat) : Int) (rowOf l h) (rowTo l (2 * h) i) (i : Int) = R := by
  intro d
  induction d with
  | zero =>
    intro i k hi hk
    obtain ⟨k, rfl⟩ : ∃ m, k = m + 1 := ⟨k - 1, by omega⟩
    simp only [spec_l4Sparse.l1]
    rw [w64 (n := (i : Int) + ((2 * h : Nat) : Int)) (by omega) (by omega), if_neg (by omega), if_pos (by omega), w64 (by omega) (by omega)]
    have := hR k (by omega)
    rw [show ((2 * h : Nat) : Int) * 2 = ((2 * (2 * h) : Nat) : Int) by omega, show i = l.length - 2 * h + 1 by omega]
    exact this
  | succ d ih =>
    intro i k hi hk
    obtain ⟨k, rfl⟩ : ∃ m, k = m + 1 := ⟨k - 1, by omega⟩
    have hrl : (rowOf l h).length = l.length - h + 1 := by unfold rowOf; rw [rowTo_len]
    simp only [spec_l4Sparse.l1]
    rw [tdiv2, w64 (n := (i : Int) + ((2 * h : Nat) : Int)) (by omega) (by omega), w64 (n := (h : Int)) (by omega) (by omega), w64 (n := (i : Int) + (h : Int)) (by omega) (by omega)]
    rw [if_pos (by omega), if_pos (by omega), if_pos (by omega), if_pos (by omega), if_pos (by omega), l1Least_f]
    simp only [Option.bind_some]
    have e : lesser (rd (rowOf l h) (i : Int)) (rd (rowOf l h) ((i : Int) + (h : Int))) = wm l i (2 * h - 1) := by
      rw [show (i : Int) + (h : Int) = ((i + h : Nat) : Int) by omega]
      unfold rowOf
      rw [rowTo_rd l h _ i (by omega), rowTo_rd l h _ (i + h) (by omega)]
      have := wm_two l i (h - 1) (h - 1)
      rw [show h - 1 + (h - 1) + 1 = 2 * h - 1 by omega, show i + (h - 1) + 1 = i + h by omega] at this
      exact this.symm
    rw [e, if_pos (by rw [rowTo_len]; omega), ← rowTo_succ, w64s (by omega)]
    exact ih (i + 1) k (by omega) (by omega)
theorem spec_l4Sparse_l0 {l : List Int} (hl : l.length ≤ 60) : ∀ (f h : Nat) (acc : List (List Int)) (k : Nat), 1 ≤ h → h ≤ l.length → l.length < 2 * h + f → acc.length + f ≤ 900 → f * 100 + 100 < k → spec_l4Sparse.l0 k l (acc ++ [rowOf l h]) ((2 * h : Nat) : Int) = some (acc ++ [rowOf l h] ++ tabl l f (2 * h)) := by
  intro f
  induction f with
  | zero =>
    intro h acc k h1 h2 h3 ha hk
    obtain ⟨k, rfl⟩ : ∃ m, k = m + 1 := ⟨k - 1, by omega⟩
    simp only [spec_l4Sparse.l0]
    rw [if_neg (by omega)]; simp [tabl]
  | succ f ih =>
    intro h acc k h1 h2 h3 ha hk
    obtain ⟨k, rfl⟩ : ∃ m, k = m + 1 := ⟨k - 1, by omega⟩
    simp only [spec_l4Sparse.l0, tabl]
    by_cases hm : 2 * h ≤ l.length
    · rw [if_pos (by omega), if_pos hm]
      have e1 : (((acc ++ [rowOf l h]).length : Int) - 1) = (acc.length : Int) := by rw [List.length_append, List.length_singleton]; omega
      rw [e1, w64 (by omega) (by omega), if_pos (by omega), if_pos (by rw [List.length_append, List.length_singleton]; omega), rdS_mid]
      refine spec_l4Sparse_l1 hl (acc ++ [rowOf l h]) (by rw [List.length_append, List.length_singleton]; omega) h h1 hm (f * 100 + 100) _ ?_ (l.length - 2 * h + 1) 0 k (by omega) (by omega)
      intro k' hk'
      rw [ih (2 * h) (acc ++ [rowOf l h]) k' (by omega) hm (by omega) (by rw [List.length_append, List.length_singleton]; omega) hk']
      simp
    · rw [if_neg (by omega), if_neg hm]; simp
theorem spec_l4Sparse_f {l : List Int} (h1 : 1 ≤ l.length) (hl : l.length ≤ 60) {k : Nat} (hk : 10000 < k) : spec_l4Sparse.f k l = some (table l) := by
  unfold spec_l4Sparse.f table
  simp only [Option.bind_some, List.nil_append]
  rw [if_pos (by simp; omega)]
  have := spec_l4Sparse_l0 hl l.length 1 [] k (by omega) (by omega) (by omega) (by simp; omega) (by omega)
  rw [rowOf_one l h1] at this
  simp only [tabl]
  rw [if_pos h1, rowOf_one l h1]
  exact this
theorem Min_l0 (xs l : List Int) (i m : Nat) (hm : xs.length = m) (hm2 : m ≤ 1000) (hx : ∀ j : Nat, j < m → rd xs (j : Int) = rd l ((i + j : Nat) : Int)) : ∀ (d j k : Nat), j + 1 + d = m → d < k → slices_Min_int_int.l0 k xs (wm l i j) ((j + 1 : Nat) : Int) = some (wm l i (m - 1)) := by
  intro d
  induction d with
  | zero =>
    intro j k hj hk
    obtain ⟨k, rfl⟩ : ∃ m, k = m + 1 := ⟨k - 1, by omega⟩
    simp only [slices_Min_int_int.l0]
    rw [if_neg (by omega), show j = m - 1 by omega]
  | succ d ih =>
    intro j k hj hk
    obtain ⟨k, rfl⟩ : ∃ m, k = m + 1 := ⟨k - 1, by omega⟩
    simp only [slices_Min_int_int.l0]
    rw [if_pos (by omega), if_pos (by omega), mn_lesser, hx (j + 1) (by omega), w64s (by omega)]
    exact ih (j + 1) k (by omega) (by omega)
theorem Min_f (l : List Int) (i m : Nat) (h1 : 1 ≤ m) (h2 : i + m ≤ l.length) (hl : m ≤ 1000) {k : Nat} (hk : m < k) : slices_Min_int_int.f k ((l.take (i + m)).drop i) = some (wm l i (m - 1)) := by
  unfold slices_Min_int_int.f
  have hlen : ((l.take (i + m)).drop i).length = m := by rw [List.length_drop, List.length_take]; omega
  have hx : ∀ j : Nat, j < m → rd ((l.take (i + m)).drop i) (j : Int) = rd l ((i + j : Nat) : Int) := by
    intro j hj
    rw [rd_eq, rd_eq, List.getD_eq_getElem?_getD, List.getD_eq_getElem?_getD, List.getElem?_drop, List.getElem?_take, if_pos (by omega)]
  rw [if_neg (by omega), if_pos (by omega)]
  have h0 := hx 0 (by omega)
  have := Min_l0 _ l i m hlen (by omega) hx (m - 1) 0 k (by omega) (by omega)
  rw [show ((0 : Nat) : Int) = 0 from rfl] at h0
  rw [h0]
  exact this
theorem impl_sparseOf_l1 {l : List Int} (hl : l.length ≤ 60) (x3 : List (List Int)) (h3 : x3.length ≤ 1000) (m : Nat) (hm1 : 1 ≤ m) (hm : m ≤ l.length) (K : Nat) (R : Option (List (List Int)))
    (hR : ∀ k', K < k' → impl_sparseOf.l0 k' l (x3 ++ [rowOf l m]) ((2 * m : Nat) : Int) = R) :
    ∀ (d i k : Nat), i + d = l.length - m + 1 → K + d + 100 < k → impl_sparseOf.l1 k l x3 (m : Int) (rowTo l m i) (i : Int) = R := by
  intro d
  induction d with
  | zero =>
    intro i k hi hk
    obtain ⟨k, rfl⟩ : ∃ m, k = m + 1 := ⟨k - 1, by omega⟩
    simp only [impl_sparseOf.l1]
    rw [w64 (n := (i : Int) + (m : Int)) (by omega) (by omega), if_neg (by omega), if_pos (by omega), w64 (by omega) (by omega)]
    have := hR k (by omega)
    rw [show (m : Int) * 2 = ((2 * m : Nat) : Int) by omega, show i = l.length - m + 1 by omega]
    exact this
  | succ d ih =>
    intro i k hi hk
    obtain ⟨k, rfl⟩ : ∃ m, k = m + 1 := ⟨k - 1, by omega⟩
    simp only [impl_sparseOf.l1]
    rw [w64 (n := (i : Int) + (m : Int)) (by omega) (by omega), if_pos (by omega), if_pos (by omega), if_pos (by omega), show ((i : Int) + (m : Int)).toNat = i + m by omega, Int.toNat_natCast, Min_f l i m hm1 (by omega) (by omega) (by omega)]
    simp only [Option.bind_some]
    rw [if_pos (by rw [rowTo_len]; omega), ← rowTo_succ, w64s (by omega)]
    exact ih (i + 1) k (by omega) (by omega)
theorem impl_sparseOf_l0 {l : List Int} (hl : l.length ≤ 60) : ∀ (f m : Nat) (acc : List (List Int)) (k : Nat), 1 ≤ m → l.length < m + f → acc.length + f ≤ 900 → f * 300 + 300 < k → impl_sparseOf.l0 k l acc (m : Int) = some (acc ++ tabl l f m) := by
  intro f
  induction f with
  | zero =>
    intro m acc k h1 h3 ha hk
    obtain ⟨k, rfl⟩ : ∃ m, k = m + 1 := ⟨k - 1, by omega⟩
    simp only [impl_sparseOf.l0]
    rw [if_neg (by omega)]; simp [tabl]
  | succ f ih =>
    intro m acc k h1 h3 ha hk
    obtain ⟨k, rfl⟩ : ∃ m, k = m + 1 := ⟨k - 1, by omega⟩
    simp only [impl_sparseOf.l0, tabl]
    by_cases hm : m ≤ l.length
    · rw [if_pos (by omega), if_pos hm]
      refine impl_sparseOf_l1 hl acc (by omega) m h1 hm (f * 300 + 300) _ ?_ (l.length - m + 1) 0 k (by omega) (by omega)
      intro k' hk'
      rw [ih (2 * m) (acc ++ [rowOf l m]) k' (by omega) (by omega) (by rw [List.length_append, List.length_singleton]; omega) hk']
      simp
    · rw [if_neg (by omega), if_neg hm]; simp
theorem impl_sparseOf_f {l : List Int} (hl : l.length ≤ 60) {k : Nat} (hk : 50000 < k) : impl_sparseOf.f k l = some (table l) := by
  unfold impl_sparseOf.f table
  have := impl_sparseOf_l0 hl (l.length + 1) 1 [] k (by omega) (by omega) (by simp; omega) (by omega)
  simpa using this
def okN (l : List Int) : Bool := inn (l.length : Int) 1 60 && allIn l 0 100000
theorem okN_len {l : List Int} (h : okN l = true) : 1 ≤ l.length ∧ l.length ≤ 60 := by
  unfold okN at h
  rw [Bool.and_eq_true, inn_t] at h
  omega
def sparse (l : List Int) : List (List Int) × Bool := if okN l then (table l, true) else ([], false)
theorem sparse_small (l : List Int) : (sparse l).1.length ≤ 100 ∧ ∀ x ∈ (sparse l).1, x.length ≤ 100 := by
  unfold sparse
  split
  · rename_i h
    have h2 := okN_len h
    refine ⟨?_, ?_⟩
    · have := tabl_len l (l.length + 1) 1
      show (table l).length ≤ 100
      unfold table; omega
    · intro x hx
      have := tabl_rows l (l.length + 1) 1 x hx
      omega
  · simp
theorem l4Numbers_f {k : Nat} {l : List Int} (hn : l.length ≤ 100000000000000) (hk : l.length < k) : spec_l4Numbers.f k l = some (okN l) := by
  unfold spec_l4Numbers.f okN
  simp only [l1In_f, Option.bind_some]
  by_cases h : inn (l.length : Int) 1 60 = true
  · rw [if_pos h, h, Bool.true_and, l1All_f hn hk]; rfl
  · rw [if_neg h]; simp [h]
theorem impl_SparseOf_f {k : Nat} {l : List Int} (hn : l.length ≤ 100000000000000) (hk : l.length + 60000 < k) : impl_SparseOf.f k l = some (sparse l) := by
  unfold impl_SparseOf.f sparse okN
  simp only [within_f, Option.bind_some]
  by_cases h : inn (l.length : Int) 1 60 = true
  · have h2 := inn_t.1 h
    rw [if_pos h, h, Bool.true_and, ContainsFunc_f hn (by omega)]
    simp only [Option.bind_some]
    by_cases h3 : allIn l 0 100000 = true
    · rw [h3]
      simp only [Bool.not_true, Bool.false_eq_true, if_false, if_true]
      rw [impl_sparseOf_f (by omega) (by omega)]; rfl
    · rw [Bool.eq_false_iff.2 h3]; simp
  · rw [if_neg h]; simp [h]
theorem drop_rd (x : List Int) (i : Nat) (h : i < x.length) : x.drop i = rd x (i : Int) :: x.drop (i + 1) := by
  rw [List.drop_eq_getElem_cons h]
  congr 1
  have := rd_get x i h
  rw [List.getElem?_eq_getElem h] at this
  exact Option.some.inj this
theorem drop_rdS (x : List (List Int)) (i : Nat) (h : i < x.length) : x.drop i = rd_L1 x (i : Int) :: x.drop (i + 1) := by
  rw [List.drop_eq_getElem_cons h]
  congr 1
  have := rdS_get x i h
  rw [List.getElem?_eq_getElem h] at this
  exact Option.some.inj this
theorem spec_l1Same_l0 (x y : List Int) (hxy : x.length = y.length) (hn : x.length ≤ 100000000000000) (d : Nat) : ∀ (k i : Nat), i + d = x.length → d < k → spec_l1Same.l0 k x y (x.length : Int) i = some (decide (x.drop i = y.drop i)) := by
  induction d with
  | zero =>
    intro k i hi hk
    obtain ⟨k, rfl⟩ := step_k hk
    simp only [spec_l1Same.l0]; rw [if_neg (by omega), List.drop_eq_nil_of_le (by omega), List.drop_eq_nil_of_le (by omega)]; simp
  | succ d ih =>
    intro k i hi hk
    obtain ⟨k, rfl⟩ := step_k hk
    simp only [spec_l1Same.l0]
    rw [if_pos (by omega), if_pos (by omega), if_pos (by omega), if_pos (by omega), drop_rd x i (by omega), drop_rd y i (by omega)]
    by_cases h : rd x (i : Int) = rd y (i : Int)
    · rw [if_pos h, w64s (by omega), ih k (i + 1) (by omega) (by omega), h]; simp
    · rw [if_neg h]; simp [h]
theorem spec_l1Same_f {k : Nat} {x y : List Int} (hn : x.length ≤ 100000000000000) (hk : x.length < k) : spec_l1Same.f k x y = some (decide (x = y)) := by
  unfold spec_l1Same.f
  by_cases h : x.length = y.length
  · rw [if_pos (by omega)]
    have := spec_l1Same_l0 x y h hn x.length k 0 (by omega) hk
    simpa using this
  · rw [if_neg (by omega)]
    have : x ≠ y := fun e => h (by rw [e])
    simp [this]
theorem slices_Equal_int_int_l0 (x y : List Int) (hxy : x.length = y.length) (hn : x.length ≤ 100000000000000) (d : Nat) : ∀ (k i : Nat), i + d = x.length → d < k → slices_Equal_int_int.l0 k x y (x.length : Int) i = some (decide (x.drop i = y.drop i)) := by
  induction d with
  | zero =>
    intro k i hi hk
    obtain ⟨k, rfl⟩ := step_k hk
    simp only [slices_Equal_int_int.l0]; rw [if_neg (by omega), List.drop_eq_nil_of_le (by omega), List.drop_eq_nil_of_le (by omega)]; simp
  | succ d ih =>
    intro k i hi hk
    obtain ⟨k, rfl⟩ := step_k hk
    simp only [slices_Equal_int_int.l0]
    rw [if_pos (by omega), if_pos (by omega), if_pos (by omega), if_pos (by omega), drop_rd x i (by omega), drop_rd y i (by omega)]
    by_cases h : rd x (i : Int) = rd y (i : Int)
    · rw [if_pos h, w64s (by omega), ih k (i + 1) (by omega) (by omega), h]; simp
    · rw [if_neg h]; simp [h]
theorem slices_Equal_int_int_f {k : Nat} {x y : List Int} (hn : x.length ≤ 100000000000000) (hk : x.length < k) : slices_Equal_int_int.f k x y = some (decide (x = y)) := by
  unfold slices_Equal_int_int.f
  by_cases h : x.length = y.length
  · rw [if_pos (by omega)]
    have := slices_Equal_int_int_l0 x y h hn x.length k 0 (by omega) hk
    simpa using this
  · rw [if_neg (by omega)]
    have : x ≠ y := fun e => h (by rw [e])
    simp [this]
theorem tot_mem (l : List (List Int)) : ∀ x ∈ l, x.length ≤ tot l := by
  induction l with
  | nil => simp
  | cons y ys ih =>
    intro x hx
    simp only [tot]
    rcases List.mem_cons.1 hx with rfl | h
    · omega
    · have := ih x h; omega
theorem table_small {l : List Int} (h : l.length ≤ 60) : (table l).length ≤ 100 ∧ ∀ x ∈ table l, x.length ≤ 100 := by
  refine ⟨?_, ?_⟩
  · have := tabl_len l (l.length + 1) 1
    unfold table; omega
  · intro x hx
    have := tabl_rows l (l.length + 1) 1 x hx
    omega
theorem EqualFunc_l0 (s g : List (List Int)) (hl : g.length = s.length) (hg : ∀ x ∈ g, x.length ≤ 100) (hn : g.length ≤ 100) (d : Nat) : ∀ (k i : Nat), i + d = g.length → d + 200 < k → slices_EqualFunc_int_int_int_int.l0 k s g (g.length : Int) i = some (decide (g.drop i = s.drop i)) := by
  induction d with
  | zero =>
    intro k i hi hk
    obtain ⟨k, rfl⟩ := step_k hk
    simp only [slices_EqualFunc_int_int_int_int.l0]; rw [if_neg (by omega), List.drop_eq_nil_of_le (by omega), List.drop_eq_nil_of_le (by omega)]; simp
  | succ d ih =>
    intro k i hi hk
    obtain ⟨k, rfl⟩ := step_k hk
    have hx := hg _ (rdS_mem g i (by omega))
    simp only [slices_EqualFunc_int_int_int_int.l0]
    rw [if_pos (by omega), if_pos (by omega), if_pos (by omega), if_pos (by omega), slices_Equal_int_int_f (by omega) (by omega), drop_rdS g i (by omega), drop_rdS s i (by omega)]
    simp only [Option.bind_some]
    by_cases h : rd_L1 g (i : Int) = rd_L1 s (i : Int)
    · rw [if_pos (by simp [h]), w64s (by omega), ih k (i + 1) (by omega) (by omega), h]; simp
    · rw [if_neg (by simp [h])]; simp [h]
theorem EqualFunc_f (s g : List (List Int)) (hg : ∀ x ∈ g, x.length ≤ 100) (hn : g.length ≤ 100) {k : Nat} (hk : 1000 < k) {a : Int} : slices_EqualFunc_int_int_int_int.f k g s a = some (decide (g = s)) := by
  unfold slices_EqualFunc_int_int_int_int.f
  by_cases h : g.length = s.length
  · rw [if_pos (by omega)]
    have := EqualFunc_l0 s g h hg hn g.length k 0 (by omega) (by omega)
    simpa using this
  · rw [if_neg (by omega)]
    have : g ≠ s := fun e => h (by rw [e])
    simp [this]
theorem spec_LeastIn_l1 (l : List Int) (i m : Nat) (hm2 : m ≤ 1000) (W : List Int) (hW : W.length = m) (hx : ∀ j : Nat, j < m → rd W (j : Int) = rd l ((i + j : Nat) : Int)) : ∀ (d j k : Nat), j + 1 + d = m → d < k → spec_LeastIn.l1 k (wm l i j) W (W.length : Int) ((j + 1 : Nat) : Int) = some (wm l i (m - 1), true) := by
  intro d
  induction d with
  | zero =>
    intro j k hj hk
    obtain ⟨k, rfl⟩ : ∃ m, k = m + 1 := ⟨k - 1, by omega⟩
    simp only [spec_LeastIn.l1]
    rw [if_neg (by omega), show j = m - 1 by omega]
  | succ d ih =>
    intro j k hj hk
    obtain ⟨k, rfl⟩ : ∃ m, k = m + 1 := ⟨k - 1, by omega⟩
    simp only [spec_LeastIn.l1, l1Least_f, Option.bind_some]
    rw [if_pos (by omega), if_pos (by omega), if_pos (by omega), hx (j + 1) (by omega), w64s (by omega)]
    exact ih (j + 1) k (by omega) (by omega)
def fin (s : List (List Int)) (a b : Int) : Int × Bool := if 0 ≤ a ∧ a < b ∧ b ≤ (rd_L1 s 0).length then (wm (rd_L1 s 0) a.toNat (b.toNat - a.toNat - 1), true) else (0, false)
theorem spec_LeastIn_fin (s : List (List Int)) (a b : Int) (hpos : 0 < s.length) (hs : (rd_L1 s 0).length ≤ 60) : ∀ k, 1000 < k → (if a < 0 then (spec_LeastIn.j2 k s a b true) else (if a ≥ b then (spec_LeastIn.j2 k s a b true) else (if 0 < (s.length : Int) then (spec_LeastIn.j2 k s a b (decide (b > ((rd_L1 s 0).length : Int)))) else (none)))) = some (fin s a b) := by
  intro k hk
  have hf : ∀ k, 100 < k → spec_LeastIn.j2 k s a b true = some (0, false) := by
    intro k hk
    obtain ⟨k, rfl⟩ := step_k hk
    simp only [spec_LeastIn.j2]; simp
  unfold fin
  by_cases h5 : 0 ≤ a ∧ a < b ∧ b ≤ (rd_L1 s 0).length
  · rw [if_neg (by omega), if_neg (by omega), if_pos (by omega), if_pos h5, show decide (b > ((rd_L1 s 0).length : Int)) = false from decide_eq_false (by omega)]
    obtain ⟨k, rfl⟩ := step_k hk
    simp only [spec_LeastIn.j2, Bool.false_eq_true, if_false]
    rw [if_pos (by omega), if_pos h5.1, if_pos (by omega), if_pos (by omega), if_pos h5.2.2]
    have hW : (((rd_L1 s 0).take b.toNat).drop a.toNat).length = b.toNat - a.toNat := by rw [List.length_drop, List.length_take]; omega
    have hx : ∀ j : Nat, j < b.toNat - a.toNat → rd (((rd_L1 s 0).take b.toNat).drop a.toNat) (j : Int) = rd (rd_L1 s 0) ((a.toNat + j : Nat) : Int) := by
      intro j hj
      rw [rd_eq, rd_eq, List.getD_eq_getElem?_getD, List.getD_eq_getElem?_getD, List.getElem?_drop, List.getElem?_take, if_pos (by omega)]
    obtain ⟨k, rfl⟩ : ∃ m, k = m + 1 := ⟨k - 1, by omega⟩
    simp only [spec_LeastIn.l1, l1Least_f, Option.bind_some]
    have h0 := hx 0 (by omega)
    rw [show ((0 : Nat) : Int) = 0 from rfl, show a.toNat + 0 = a.toNat by omega, show ((a.toNat : Nat) : Int) = a by omega] at h0
    rw [if_pos (by omega), if_pos (by omega), if_pos (by omega), h0, show lesser (rd (rd_L1 s 0) a) (rd (rd_L1 s 0) a) = wm (rd_L1 s 0) a.toNat 0 by unfold lesser wm; rw [show ((a.toNat : Nat) : Int) = a by omega]; split <;> rfl, w64 (by omega) (by omega)]
    exact spec_LeastIn_l1 (rd_L1 s 0) a.toNat (b.toNat - a.toNat) (by omega) _ hW hx (b.toNat - a.toNat - 1) 0 k (by omega) (by omega)
  · rw [if_neg h5]
    by_cases h6 : a < 0
    · rw [if_pos h6, hf k (by omega)]
    · rw [if_neg h6]
      by_cases h7 : a ≥ b
      · rw [if_pos h7, hf k (by omega)]
      · rw [if_neg h7, if_pos (by omega), show decide (b > ((rd_L1 s 0).length : Int)) = true from decide_eq_true (by omega), hf k (by omega)]
theorem spec_LeastIn_l0 (s g : List (List Int)) (hl : g.length = s.length) (hg : ∀ x ∈ g, x.length ≤ 100) (hn : g.length ≤ 100) (a b : Int) (R : Int × Bool)
    (hR : ∀ k, 1000 < k → (if a < 0 then (spec_LeastIn.j2 k s a b true) else (if a ≥ b then (spec_LeastIn.j2 k s a b true) else (if 0 < (s.length : Int) then (spec_LeastIn.j2 k s a b (decide (b > ((rd_L1 s 0).length : Int)))) else (none)))) = some R) (d : Nat) : ∀ (k i : Nat), i + d = g.length → d + 2000 < k → spec_LeastIn.l0 k s a b g (g.length : Int) i = some (if g.drop i = s.drop i then R else (0, false)) := by
  induction d with
  | zero =>
    intro k i hi hk
    obtain ⟨k, rfl⟩ := step_k hk
    simp only [spec_LeastIn.l0]
    rw [if_neg (show ¬ ((i : Int) < (g.length : Int)) by omega), List.drop_eq_nil_of_le (show g.length ≤ i by omega), List.drop_eq_nil_of_le (show s.length ≤ i by omega), if_pos rfl]
    exact hR k (by omega)
  | succ d ih =>
    intro k i hi hk
    obtain ⟨k, rfl⟩ := step_k hk
    have hx := hg _ (rdS_mem g i (by omega))
    simp only [spec_LeastIn.l0]
    rw [if_pos (show ((i : Int) < (g.length : Int)) by omega), if_pos (by omega), if_pos (by omega), if_pos (by omega), spec_l1Same_f (by omega) (by omega), drop_rdS g i (by omega), drop_rdS s i (by omega)]
    simp only [Option.bind_some]
    by_cases h : rd_L1 g (i : Int) = rd_L1 s (i : Int)
    · rw [if_pos (by simp [h]), w64s (by omega), ih k (i + 1) (by omega) (by omega), h]; simp
    · rw [if_neg (by simp [h])]; simp [h]
theorem szIntS_f (l : List Int) (left : Int) (hn : l.length ≤ 100000000000000) (h0 : 0 ≤ left) (h1 : left ≤ 100000000000) : laws_szIntS.f l left = some (if left < l.length then -1 else left - l.length) := by
  unfold laws_szIntS.f
  rw [w64 (n := left - (l.length : Int)) (by omega) (by omega)]
  by_cases h : left < l.length
  · rw [if_pos (by omega), if_pos h]
  · rw [if_neg (by omega), if_neg h]
theorem szIntSS_l0 (l : List (List Int)) (hn : l.length ≤ 1048576) (hl : ∀ v ∈ l, v.length * 8 ≤ 140737488351232) (d : Nat) : ∀ (k i : Nat) (left : Int), i + d = l.length → 0 ≤ left → left ≤ 1048576 → d < k → ∃ r, laws_szIntSS.l0 k l left i = some r ∧ (0 ≤ r → (tot (l.drop i) : Int) ≤ left) := by
  induction d with
  | zero =>
    intro k i left hi h0 h1 hk
    obtain ⟨k, rfl⟩ := step_k hk
    simp only [laws_szIntSS.l0]
    rw [if_neg (by omega), List.drop_eq_nil_of_le (by omega)]
    exact ⟨_, rfl, fun _ => by simp [tot]; omega⟩
  | succ d ih =>
    intro k i left hi h0 h1 hk
    obtain ⟨k, rfl⟩ := step_k hk
    have hx := hl _ (rdS_mem l i (by omega))
    simp only [laws_szIntSS.l0]
    rw [if_pos (by omega), if_pos (by omega), szIntS_f _ _ (by omega) h0 (by omega), drop_rdS l i (by omega)]
    simp only [Option.bind_some, tot]
    by_cases h : left < ((rd_L1 l (i : Int)).length : Int)
    · rw [if_pos h]
      exact ⟨-1, by simp, fun h => by omega⟩
    · rw [if_neg h, if_neg (by omega), w64s (by omega)]
      obtain ⟨r, hr, hr2⟩ := ih k (i + 1) (left - ((rd_L1 l (i : Int)).length : Int)) (by omega) (by omega) (by omega) (by omega)
      exact ⟨r, hr, fun h => by have := hr2 h; omega⟩
theorem szIntSS_f (l : List (List Int)) (hn : l.length * 24 ≤ 140737488351232) (hl : ∀ v ∈ l, v.length * 8 ≤ 140737488351232) {k : Nat} (hk : 1048600 < k) : ∃ r, laws_szIntSS.f k l 1048576 = some r ∧ (0 ≤ r → l.length + tot l ≤ 1048576) := by
  unfold laws_szIntSS.f
  rw [w64 (n := 1048576 - (l.length : Int)) (by omega) (by omega)]
  by_cases h : (1048576 : Int) - (l.length : Int) < 0
  · rw [if_pos h]
    exact ⟨_, rfl, fun h => by omega⟩
  · rw [if_neg h]
    obtain ⟨r, hr, hr2⟩ := szIntSS_l0 l (by omega) hl l.length k 0 (1048576 - (l.length : Int)) (by omega) (by omega) (by omega) (by omega)
    exact ⟨r, hr, fun h => by have := hr2 h; rw [List.drop_zero] at this; omega⟩
theorem toIntSS_l0 (l : List (List Int)) (hs : l.length + tot l ≤ 1048576) (d : Nat) : ∀ (k : Nat) (x : List (List Int)) (i : Nat), x.length = l.length → i + d = l.length → d + 1048600 < k → (∀ j, j < i → x[j]? = l[j]?) → laws_toIntSS.l0 k l x i = some l := by
  induction d with
  | zero =>
    intro k x i hx hi hk hp
    obtain ⟨k, rfl⟩ := step_k hk
    simp only [laws_toIntSS.l0]; rw [if_neg (by omega)]
    congr 1
    apply List.ext_getElem?
    intro j
    by_cases h : j < i
    · exact hp j h
    · rw [List.getElem?_eq_none (by omega), List.getElem?_eq_none (by omega)]
  | succ d ih =>
    intro k x i hx hi hk hp
    obtain ⟨k, rfl⟩ := step_k hk
    have hm := tot_mem l _ (rdS_mem l i (by omega))
    simp only [laws_toIntSS.l0]
    rw [if_pos (by omega), if_pos (by omega), toIntS_f (by omega) (by omega)]
    simp only [Option.bind_some]
    rw [if_pos (by omega), w64s (by omega)]
    refine ih k _ (i + 1) (by simpa using hx) (by omega) (by omega) ?_
    intro j hj
    rw [Int.toNat_natCast, List.getElem?_set]
    by_cases h : i = j
    · subst h
      rw [if_pos rfl, if_pos (by omega)]
      exact (rdS_get l i (by omega)).symm
    · rw [if_neg h]; exact hp j (by omega)
theorem toIntSS_f {l : List (List Int)} (hs : l.length + tot l ≤ 1048576) {k : Nat} (hk : 2099990 < k) : laws_toIntSS.f k l = some l := by
  unfold laws_toIntSS.f
  rw [if_pos (by omega), if_pos (by omega)]
  exact toIntSS_l0 l hs l.length k _ 0 (by simp) (by omega) (by omega) (by intro j hj; omega)
theorem eqIntSS_g0 (l : List (List Int)) (hs : l.length + tot l ≤ 1048576) (d : Nat) : ∀ (k i : Nat), i + d = l.length → d + 1048600 < k → laws_eqIntSS.l0 k l l i = some true := by
  induction d with
  | zero =>
    intro k i hi hk
    obtain ⟨k, rfl⟩ : ∃ m, k = m + 1 := ⟨k - 1, by omega⟩
    simp only [laws_eqIntSS.l0]; rw [if_neg (by omega)]
  | succ d ih =>
    intro k i hi hk
    obtain ⟨k, rfl⟩ : ∃ m, k = m + 1 := ⟨k - 1, by omega⟩
    have hx := tot_mem l _ (rdS_mem l i (by omega))
    simp only [laws_eqIntSS.l0]
    rw [if_pos (by omega), if_pos (by omega), if_pos (by omega), eqIntS_f (by omega) (by omega)]
    simp only [Option.bind_some, if_true]
    rw [w64s (by omega)]
    exact ih k (i + 1) (by omega) (by omega)
theorem eqIntSS_g {k : Nat} {l : List (List Int)} (hs : l.length + tot l ≤ 1048576) (hk : 2100000 < k) : laws_eqIntSS.f k l l = some true := by
  unfold laws_eqIntSS.f
  rw [if_pos rfl]
  exact eqIntSS_g0 l hs l.length k 0 (by omega) (by omega)
def leastIn (s : List (List Int)) (a b : Int) : Int × Bool := if s ≠ [] ∧ okN (rd_L1 s 0) = true ∧ table (rd_L1 s 0) = s ∧ 0 ≤ a ∧ a < b ∧ b ≤ (rd_L1 s 0).length then (wm (rd_L1 s 0) a.toNat (b.toNat - a.toNat - 1), true) else (0, false)
theorem spec_LeastIn_f {k : Nat} {s : List (List Int)} {a b : Int} (hs : s.length + tot s ≤ 1048576) (hk : 2058900 < k) : spec_LeastIn.f k s a b = some (leastIn s a b) := by
  have hf : ∀ k, 100 < k → spec_LeastIn.j0 k s a b true = some (0, false) := by
    intro k hk
    obtain ⟨k, rfl⟩ := step_k hk
    simp only [spec_LeastIn.j0]; simp
  unfold spec_LeastIn.f
  by_cases h0 : s = []
  · subst h0
    rw [if_pos (by simp), hf k (by omega)]; simp [leastIn]
  · have hpos : 0 < s.length := List.length_pos_iff.2 h0
    have hr0 : (rd_L1 s 0).length ≤ tot s := tot_mem s _ (rdS_mem s 0 hpos)
    rw [if_neg (by omega), if_pos (by omega), l4Numbers_f (by omega) (by omega)]
    simp only [Option.bind_some]
    by_cases h1 : okN (rd_L1 s 0) = true
    · have h2 := okN_len h1
      rw [h1]
      obtain ⟨k, rfl⟩ : ∃ m, k = m + 1 := ⟨k - 1, by omega⟩
      simp only [Bool.not_true, spec_LeastIn.j0, Bool.false_eq_true, if_false]
      rw [if_pos (by omega), spec_l4Sparse_f h2.1 h2.2 (by omega)]
      simp only [Option.bind_some]
      by_cases h3 : (table (rd_L1 s 0)).length = s.length
      · have ht := table_small h2.2
        have key := spec_LeastIn_l0 s (table (rd_L1 s 0)) h3 ht.2 ht.1 a b _ (spec_LeastIn_fin s a b hpos h2.2) (table (rd_L1 s 0)).length k 0 (by omega) (by omega)
        rw [List.drop_zero, List.drop_zero, show ((0 : Nat) : Int) = 0 from rfl] at key
        rw [if_pos (by omega), key]
        by_cases h4 : table (rd_L1 s 0) = s
        · rw [if_pos h4]
          unfold leastIn fin
          congr 1
          by_cases h5 : 0 ≤ a ∧ a < b ∧ b ≤ (rd_L1 s 0).length
          · rw [if_pos h5, if_pos ⟨h0, h1, h4, h5⟩]
          · rw [if_neg h5, if_neg (fun h => h5 h.2.2.2)]
        · rw [if_neg h4]
          unfold leastIn
          rw [if_neg (fun h => h4 h.2.2.1)]
      · rw [if_neg (by omega)]
        unfold leastIn
        rw [if_neg (fun h => h3 (by rw [h.2.2.1]))]
    · rw [Bool.eq_false_iff.2 h1, Bool.not_false, hf k (by omega)]
      unfold leastIn
      rw [if_neg (fun h => h1 h.2.1)]
theorem impl_LeastIn_f {k : Nat} {s : List (List Int)} {a b : Int} (hs : s.length + tot s ≤ 1048576) (hk : 2058900 < k) : impl_LeastIn.f k s a b = some (leastIn s a b) := by
  have hf : ∀ k, 100 < k → impl_LeastIn.j0 k s a b true = some (0, false) := by
    intro k hk
    obtain ⟨k, rfl⟩ := step_k hk
    simp only [impl_LeastIn.j0]; simp
  unfold impl_LeastIn.f
  by_cases h0 : s = []
  · subst h0
    rw [if_pos (by simp), hf k (by omega)]; simp [leastIn]
  · have hpos : 0 < s.length := List.length_pos_iff.2 h0
    have hr0 : (rd_L1 s 0).length ≤ tot s := tot_mem s _ (rdS_mem s 0 hpos)
    rw [if_neg (by omega)]
    by_cases h5 : 0 ≤ a ∧ a < b ∧ b ≤ (rd_L1 s 0).length
    · rw [if_neg (by omega), if_neg (by omega), if_pos (by omega)]
      rw [show decide (b > ((rd_L1 s 0).length : Int)) = false from decide_eq_false (by omega)]
      obtain ⟨k, rfl⟩ : ∃ m, k = m + 1 := ⟨k - 1, by omega⟩
      simp only [impl_LeastIn.j0, Bool.false_eq_true, if_false]
      rw [if_pos (by omega), impl_SparseOf_f (by omega) (by omega)]
      simp only [Option.bind_some]
      unfold sparse leastIn
      by_cases h1 : okN (rd_L1 s 0) = true
      · have h2 := okN_len h1
        have ht := table_small h2.2
        rw [if_pos h1]
        simp only [if_true]
        rw [EqualFunc_f s (table (rd_L1 s 0)) ht.2 ht.1 (by omega)]
        simp only [Option.bind_some]
        by_cases h4 : table (rd_L1 s 0) = s
        · rw [if_pos (by simp [h4]), if_pos h5.1, if_pos (by omega), if_pos (by omega), if_pos ⟨h0, h1, h4, h5⟩]
          have := Min_f (rd_L1 s 0) a.toNat (b.toNat - a.toNat) (by omega) (by omega) (by omega) (k := k) (by omega)
          rw [show a.toNat + (b.toNat - a.toNat) = b.toNat by omega] at this
          rw [this]; rfl
        · rw [if_neg (by simp [h4]), if_neg (fun h => h4 h.2.2.1)]
      · rw [if_neg h1]
        simp only [Bool.false_eq_true, if_false]
        rw [if_neg (fun h => h1 h.2.1)]
    · have e : leastIn s a b = (0, false) := by
        unfold leastIn
        rw [if_neg (fun h => h5 h.2.2.2)]
      rw [e]
      by_cases h6 : a < 0
      · rw [if_pos h6, hf k (by omega)]
      · rw [if_neg h6]
        by_cases h7 : a ≥ b
        · rw [if_pos h7, hf k (by omega)]
        · rw [if_neg h7, if_pos (by omega), show decide (b > ((rd_L1 s 0).length : Int)) = true from decide_eq_true (by omega), hf k (by omega)]
theorem FnExactLeastIn : ∀ (l0 : List (List (Int))) (a1 : Int) (a2 : Int), l0.length * 24 ≤ 140737488351232 → (∀ v ∈ l0, v.length * 8 ≤ 140737488351232 ∧ ∀ y ∈ v, (Lit.int .i64 y).wf = true) → (Lit.int .i64 a1).wf = true → (Lit.int .i64 a2).wf = true → ∃ k, laws_FnExactLeastIn.f k l0 a1 a2 = some true := by
  intro l a b hl hw
  intros
  suffices h : ∀ k, 2158990 ≤ k → laws_FnExactLeastIn.f k l a b = some true from ⟨_, h _ (Nat.le_refl _)⟩
  intro k hk
  unfold laws_FnExactLeastIn.f
  obtain ⟨r, hr, hr2⟩ := szIntSS_f l (by omega) (fun v hv => (hw v hv).1) (k := k) (by omega)
  rw [hr]
  simp only [Option.bind_some]
  by_cases h : r < 0
  · rw [if_pos h]
  · rw [if_neg h]
    have hs := hr2 (by omega)
    obtain ⟨m, rfl⟩ : ∃ m, k = m + 1 := ⟨k - 1, by omega⟩
    have hT : ∀ k, 2100000 ≤ k → laws_toIntSS.f k l = some l := fun k hk => toIntSS_f hs (by omega)
    have hE : laws_eqIntSS.f m l l = some true := eqIntSS_g hs (by omega)
    rw [hT _ (by omega)]
    simp only [Option.bind_some]
    rw [spec_LeastIn_f hs (by omega)]
    simp only [Option.bind_some]
    rw [impl_LeastIn_f hs (by omega)]
    simp only [Option.bind_some, if_true, bne_self_eq_false, laws_FnExactLeastIn.j0, Bool.false_eq_true, if_false]
    rw [hT _ (by omega)]
    simp only [Option.bind_some]
    rw [hE]
    simp

end Go.Proofs.Ytdjdkabblfccjaa.Pure
