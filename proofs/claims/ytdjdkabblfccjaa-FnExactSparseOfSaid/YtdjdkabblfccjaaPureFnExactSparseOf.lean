/- The program's SparseOf and the reference's return the same at every list of integers, in memory of their own, and leave the list as it is. No condition. -/
import Derived.Test.YtdjdkabblfccjaaPFnExactSparseOfx0
import Derived.Test.YtdjdkabblfccjaaPFnExactSparseOfx1
import Derived.Test.YtdjdkabblfccjaaPFnExactSparseOfx2
import Derived.Test.YtdjdkabblfccjaaPFnExactSparseOfx3
import Derived.Test.YtdjdkabblfccjaaPFnExactSparseOfx4
namespace Go.Proofs.Ytdjdkabblfccjaa.Pure
open Go.RowKit Go.Proofs.Ytdjdkabblfccjaa.PFnExactSparseOf Go.Proofs.YtdjdkabblfccjaaW.PrintWords Go.Proofs.YtdjdkabblfccjaaW.PrintLast Go.Proofs.YtdjdkabblfccjaaW.PrintMore
set_option linter.unusedVariables false
set_option linter.unusedSimpArgs false
theorem w64 {n : Int} (h0 : -9223372036854775808 ≤ n) (h1 : n ≤ 9223372036854775807) : wrap64 n = n := by unfold wrap64; omega
theorem w64s {i : Nat} (h1 : i ≤ 1000000000000000) : wrap64 ((i : Int) + 1) = ((i + 1 : Nat) : Int) := by rw [w64 (by omega) (by omega)]; omega
theorem rd_eq (l : List Int) (i : Nat) : rd l (i : Int) = l.getD i 0 := by simp [rd]
theorem rd_get (l : List Int) (i : Nat) (h : i < l.length) : l[i]? = some (rd l (i : Int)) := by
  simp [rd, List.getD_eq_getElem?_getD, List.getElem?_eq_getElem h]
theorem rd_mem (l : List Int) (i : Nat) (h : i < l.length) : rd l (i : Int) ∈ l := List.mem_of_getElem? (rd_get l i h)
theorem step_k {k d : Nat} (h : d < k) : ∃ m, k = m + 1 := ⟨k - 1, by omega⟩
def inn (a b c : Int) : Bool := decide (b ≤ a ∧ a ≤ c)
theorem inn_t {a b c : Int} : inn a b c = true ↔ b ≤ a ∧ a ≤ c := by simp [inn]
theorem inn_f {a b c : Int} : inn a b c = false ↔ a < b ∨ c < a := by simp [inn]; omega
theorem l1In_f (a b c : Int) : spec_l1In.f a b c = some (inn a b c) := by
  unfold spec_l1In.f inn
  by_cases h : a ≥ b
  · rw [if_pos h]; simp [show b ≤ a from h]
  · rw [if_neg h]; simp [show ¬ b ≤ a from h]
theorem within_f (a b c : Int) : impl_within.f a b c = some (inn a b c) := by
  unfold impl_within.f inn
  by_cases h : a ≥ b
  · rw [if_pos h]; simp [show b ≤ a from h]
  · rw [if_neg h]; simp [show ¬ b ≤ a from h]
theorem i64_bd {v : Int} (h : (Lit.int .i64 v).wf = true) : -9223372036854775808 ≤ v ∧ v ≤ 9223372036854775807 := by
  simp [Lit.wf, IntKind.min, IntKind.max, IntKind.signed, IntKind.bits] at h
  exact h
theorem eqIntS_l0 (l : List Int) (hn : l.length ≤ 100000000000000) (d : Nat) : ∀ (k i : Nat), i + d = l.length → d < k → laws_eqIntS.l0 k l l i = some true := by
  induction d with
  | zero =>
    intro k i hi hk
    obtain ⟨k, rfl⟩ := step_k hk
    simp only [laws_eqIntS.l0]; rw [if_neg (by omega)]
  | succ d ih =>
    intro k i hi hk
    obtain ⟨k, rfl⟩ := step_k hk
    simp only [laws_eqIntS.l0]
    rw [if_pos (by omega), if_pos (by omega), if_pos (by omega), if_true, w64s (by omega)]
    exact ih k (i + 1) (by omega) (by omega)
theorem eqIntS_f {k : Nat} {l : List Int} (hn : l.length ≤ 100000000000000) (hk : l.length < k) : laws_eqIntS.f k l l = some true := by
  unfold laws_eqIntS.f
  rw [if_pos rfl]
  exact eqIntS_l0 l hn l.length k 0 (by omega) hk
theorem toIntS_l0 (l : List Int) (hn : l.length ≤ 100000000000000) (d : Nat) : ∀ (k : Nat) (x : List Int) (i : Nat), x.length = l.length → i + d = l.length → d < k → (∀ j, j < i → x[j]? = l[j]?) →
    laws_toIntS.l0 k l x i = some l := by
  induction d with
  | zero =>
    intro k x i hx hi hk hp
    obtain ⟨k, rfl⟩ := step_k hk
    simp only [laws_toIntS.l0]; rw [if_neg (by omega)]
    congr 1
    apply List.ext_getElem?
    intro j
    by_cases h : j < i
    · exact hp j h
    · rw [List.getElem?_eq_none (by omega), List.getElem?_eq_none (by omega)]
  | succ d ih =>
    intro k x i hx hi hk hp
    obtain ⟨k, rfl⟩ := step_k hk
    simp only [laws_toIntS.l0]
    rw [if_pos (by omega), if_pos (by omega), if_pos (by omega), w64s (by omega)]
    refine ih k _ (i + 1) (by simpa using hx) (by omega) (by omega) ?_
    intro j hj
    rw [Int.toNat_natCast, List.getElem?_set]
    by_cases h : i = j
    · subst h
      rw [if_pos rfl, if_pos (by omega)]
      exact (rd_get l i (by omega)).symm
    · rw [if_neg h]; exact hp j (by omega)
theorem toIntS_f {k : Nat} {l : List Int} (hn : l.length ≤ 35184372088832) (hk : l.length < k) : laws_toIntS.f k l = some l := by
  unfold laws_toIntS.f
  rw [if_pos (by omega), if_pos (by omega)]
  exact toIntS_l0 l (by omega) l.length k _ 0 (by simp) (by omega) hk (by intro j hj; omega)
def marks (a : Int) (n : Nat) : List Int := (List.range n).map fun i : Nat => a + (i : Int)
theorem marks_len (a : Int) (n : Nat) : (marks a n).length = n := by simp [marks]
theorem marks_rd (a : Int) (n i : Nat) (h : i < n) : rd (marks a n) (i : Int) = a + i := by
  simp [marks, rd, List.getD_eq_getElem?_getD, h]
theorem markIntS_l0 (n : Nat) (hn : n ≤ 100000000000000) (a : Int) (h0 : 0 ≤ a) (ha : a ≤ 100000000000000) (d : Nat) : ∀ (k : Nat) (x : List Int) (i : Nat), x.length = n → i + d = n → d < k → (∀ j, j < i → x[j]? = some (a + (j : Int))) →
    laws_markIntS.l0 k x (a + i) i = some (a + n, marks a n) := by
  induction d with
  | zero =>
    intro k x i hx hi hk hp
    obtain ⟨k, rfl⟩ := step_k hk
    simp only [laws_markIntS.l0]; rw [if_neg (by omega)]
    congr 1
    refine Prod.ext (by simp; omega) ?_
    apply List.ext_getElem?
    intro j
    by_cases h : j < i
    · show x[j]? = _
      rw [hp j h]; simp [marks, show j < n by omega]
    · rw [List.getElem?_eq_none (by simp; omega), List.getElem?_eq_none (by rw [marks_len]; omega)]
  | succ d ih =>
    intro k x i hx hi hk hp
    obtain ⟨k, rfl⟩ := step_k hk
    simp only [laws_markIntS.l0]
    rw [if_pos (by omega), if_pos (by omega), w64s (by omega), w64 (n := a + (i : Int) + 1) (by omega) (by omega), show a + (i : Int) + 1 = a + ((i + 1 : Nat) : Int) by omega]
    refine ih k _ (i + 1) (by simpa using hx) (by omega) (by omega) ?_
    intro j hj
    rw [Int.toNat_natCast, List.getElem?_set]
    by_cases h : i = j
    · subst h
      rw [if_pos rfl, if_pos (by omega)]
    · rw [if_neg h]; exact hp j (by omega)
theorem markIntS_f {k : Nat} {l : List Int} {a : Int} (hn : l.length ≤ 100000000000000) (h0 : 0 ≤ a) (ha : a ≤ 100000000000000) (hk : l.length < k) : laws_markIntS.f k l a = some (a + l.length, marks a l.length) := by
  unfold laws_markIntS.f
  have := markIntS_l0 l.length hn a h0 ha l.length k l 0 rfl (by omega) hk (by intro j hj; omega)
  rw [show a + ((0 : Nat) : Int) = a by omega] at this
  exact this
theorem heldIntS_l0 (n : Nat) (hn : n ≤ 100000000000000) (a : Int) (h0 : 0 ≤ a) (ha : a ≤ 100000000000000) (d : Nat) : ∀ (k i : Nat), i + d = n → d < k → laws_heldIntS.l0 k (marks a n) (a + i) i = some (a + n) := by
  induction d with
  | zero =>
    intro k i hi hk
    obtain ⟨k, rfl⟩ := step_k hk
    simp only [laws_heldIntS.l0]; rw [if_neg (by rw [marks_len]; omega)]
    congr 1; omega
  | succ d ih =>
    intro k i hi hk
    obtain ⟨k, rfl⟩ := step_k hk
    simp only [laws_heldIntS.l0]
    rw [if_pos (by rw [marks_len]; omega), if_pos (by omega), if_pos (marks_rd a n i (by omega)), w64s (by omega), w64 (n := a + (i : Int) + 1) (by omega) (by omega), show a + (i : Int) + 1 = a + ((i + 1 : Nat) : Int) by omega]
    exact ih k (i + 1) (by omega) (by omega)
theorem heldIntS_f {k n : Nat} {a : Int} (hn : n ≤ 100000000000000) (h0 : 0 ≤ a) (ha : a ≤ 100000000000000) (hk : n < k) : laws_heldIntS.f k (marks a n) a = some (a + n) := by
  unfold laws_heldIntS.f
  have := heldIntS_l0 n hn a h0 ha n k 0 (by omega) hk
  rw [show a + ((0 : Nat) : Int) = a by omega] at this
  exact this
theorem rdS_get (l : List (List Int)) (i : Nat) (h : i < l.length) : l[i]? = some (rd_L1 l (i : Int)) := by
  simp [rd_L1, List.getD_eq_getElem?_getD, List.getElem?_eq_getElem h]
theorem rdS_mem (l : List (List Int)) (i : Nat) (h : i < l.length) : rd_L1 l (i : Int) ∈ l := List.mem_of_getElem? (rdS_get l i h)
theorem rdS_mid (pre : List (List Int)) (x : List Int) (post : List (List Int)) : rd_L1 (pre ++ x :: post) (pre.length : Int) = x := by
  simp [rd_L1, List.getD_eq_getElem?_getD]
theorem set_mid (pre : List (List Int)) (x y : List Int) (post : List (List Int)) : (pre ++ x :: post).set pre.length y = pre ++ y :: post := by
  induction pre with
  | nil => rfl
  | cons a pre ih => simp [ih]
theorem eqIntSS_l0 (l : List (List Int)) (R : Nat) (hl : ∀ x ∈ l, x.length ≤ R) (hR : R ≤ 100000) (hn : l.length ≤ 100000) (d : Nat) : ∀ (k i : Nat), i + d = l.length → d + R + 1 < k → laws_eqIntSS.l0 k l l i = some true := by
  induction d with
  | zero =>
    intro k i hi hk
    obtain ⟨k, rfl⟩ : ∃ m, k = m + 1 := ⟨k - 1, by omega⟩
    simp only [laws_eqIntSS.l0]; rw [if_neg (by omega)]
  | succ d ih =>
    intro k i hi hk
    obtain ⟨k, rfl⟩ : ∃ m, k = m + 1 := ⟨k - 1, by omega⟩
    have hx := hl _ (rdS_mem l i (by omega))
    simp only [laws_eqIntSS.l0]
    rw [if_pos (by omega), if_pos (by omega), if_pos (by omega), eqIntS_f (by omega) (by omega)]
    simp only [Option.bind_some, if_true]
    rw [w64s (by omega)]
    exact ih k (i + 1) (by omega) (by omega)
theorem eqIntSS_f {k R : Nat} {l : List (List Int)} (hl : ∀ x ∈ l, x.length ≤ R) (hR : R ≤ 100000) (hn : l.length ≤ 100000) (hk : l.length + R + 1 < k) : laws_eqIntSS.f k l l = some true := by
  unfold laws_eqIntSS.f
  rw [if_pos rfl]
  exact eqIntSS_l0 l R hl hR hn l.length k 0 (by omega) hk
def tot : List (List Int) → Nat
  | [] => 0
  | x :: xs => x.length + tot xs
def marksS : Int → List (List Int) → List (List Int)
  | _, [] => []
  | a, x :: xs => marks a x.length :: marksS (a + x.length) xs
theorem marksS_len (a : Int) (l : List (List Int)) : (marksS a l).length = l.length := by
  induction l generalizing a with
  | nil => rfl
  | cons x xs ih => simp [marksS, ih]
theorem markIntSS_l0 (R : Nat) (hR : R ≤ 100000) (suf : List (List Int)) : ∀ (pre : List (List Int)) (a : Int) (k : Nat), (∀ x ∈ suf, x.length ≤ R) → pre.length + suf.length ≤ 100000 → 0 ≤ a → a + tot suf ≤ 10000000000 → suf.length + R + 1 < k → laws_markIntSS.l0 k (pre ++ suf) a (pre.length : Int) = some (a + tot suf, pre ++ marksS a suf) := by
  induction suf with
  | nil =>
    intro pre a k _ hn h0 ha hk
    obtain ⟨k, rfl⟩ : ∃ m, k = m + 1 := ⟨k - 1, by omega⟩
    simp only [laws_markIntSS.l0]; rw [if_neg (by simp)]
    simp [tot, marksS]
  | cons x xs ih =>
    intro pre a k hl hn h0 ha hk
    obtain ⟨k, rfl⟩ : ∃ m, k = m + 1 := ⟨k - 1, by omega⟩
    simp only [List.length_cons] at hn hk
    have hx := hl x (by simp)
    simp only [tot] at ha ⊢
    simp only [laws_markIntSS.l0]
    rw [if_pos (by simp; omega), if_pos (by omega), rdS_mid, markIntS_f (by omega) h0 (by omega) (by omega)]
    simp only [Option.bind_some]
    have e : (pre ++ x :: xs).set ((pre.length : Int)).toNat (marks a x.length) = (pre ++ [marks a x.length]) ++ xs := by
      rw [Int.toNat_natCast, set_mid]; simp
    rw [e, w64s (by omega)]
    have := ih (pre ++ [marks a x.length]) (a + x.length) k (fun y hy => hl y (by simp [hy])) (by simp; omega) (by omega) (by omega) (by omega)
    rw [List.length_append, List.length_singleton] at this
    rw [this]
    simp only [marksS, List.append_assoc, List.singleton_append]
    congr 2
    omega
theorem markIntSS_f {k R : Nat} {l : List (List Int)} {a : Int} (hl : ∀ x ∈ l, x.length ≤ R) (hR : R ≤ 100000) (hn : l.length ≤ 100000) (h0 : 0 ≤ a) (ha : a + tot l ≤ 10000000000) (hk : l.length + R + 1 < k) : laws_markIntSS.f k l a = some (a + tot l, marksS a l) := by
  unfold laws_markIntSS.f
  have := markIntSS_l0 R hR l [] a k hl (by simpa using hn) h0 ha hk
  simpa using this
theorem heldIntSS_l0 (R : Nat) (hR : R ≤ 100000) (suf : List (List Int)) : ∀ (pre : List (List Int)) (a : Int) (k : Nat), (∀ x ∈ suf, x.length ≤ R) → pre.length + suf.length ≤ 100000 → 0 ≤ a → a + tot suf ≤ 10000000000 → suf.length + R + 1 < k → laws_heldIntSS.l0 k (pre ++ marksS a suf) a (pre.length : Int) = some (a + tot suf) := by
  induction suf with
  | nil =>
    intro pre a k _ hn h0 ha hk
    obtain ⟨k, rfl⟩ : ∃ m, k = m + 1 := ⟨k - 1, by omega⟩
    rw [show marksS a [] = [] from rfl]
    simp only [laws_heldIntSS.l0]; rw [if_neg (show ¬ ((pre.length : Int) < ((pre ++ ([] : List (List Int))).length : Int)) by simp)]
    simp [tot]
  | cons x xs ih =>
    intro pre a k hl hn h0 ha hk
    obtain ⟨k, rfl⟩ : ∃ m, k = m + 1 := ⟨k - 1, by omega⟩
    simp only [List.length_cons] at hn hk
    have hx := hl x (by simp)
    simp only [tot] at ha ⊢
    rw [show marksS a (x :: xs) = marks a x.length :: marksS (a + x.length) xs from rfl]
    simp only [laws_heldIntSS.l0]
    rw [if_pos (show (pre.length : Int) < ((pre ++ marks a x.length :: marksS (a + x.length) xs).length : Int) by simp <;> omega), if_pos (by omega), rdS_mid, heldIntS_f (by omega) h0 (by omega) (by omega)]
    simp only [Option.bind_some]
    rw [if_neg (by omega), w64s (by omega)]
    have := ih (pre ++ [marks a x.length]) (a + x.length) k (fun y hy => hl y (by simp [hy])) (by simp; omega) (by omega) (by omega) (by omega)
    rw [List.length_append, List.length_singleton, List.append_assoc, List.singleton_append] at this
    rw [this]
    congr 1
    omega
theorem heldIntSS_f {k R : Nat} {l : List (List Int)} {a : Int} (hl : ∀ x ∈ l, x.length ≤ R) (hR : R ≤ 100000) (hn : l.length ≤ 100000) (h0 : 0 ≤ a) (ha : a + tot l ≤ 10000000000) (hk : l.length + R + 1 < k) : laws_heldIntSS.f k (marksS a l) a = some (a + tot l) := by
  unfold laws_heldIntSS.f
  have := heldIntSS_l0 R hR l [] a k hl (by simpa using hn) h0 ha hk
  simpa using this
theorem tot_le (R : Nat) (l : List (List Int)) (hl : ∀ x ∈ l, x.length ≤ R) : tot l ≤ l.length * R := by
  induction l with
  | nil => simp [tot]
  | cons x xs ih =>
    have h1 := ih (fun y hy => hl y (by simp [hy]))
    have h2 := hl x (by simp)
    simp only [tot, List.length_cons, Nat.succ_mul]
    omega
def allFrom (l : List Int) (lo hi : Int) : Nat → Nat → Bool
  | _, 0 => true
  | i, d + 1 => inn (rd l i) lo hi && allFrom l lo hi (i + 1) d
def allIn (l : List Int) (lo hi : Int) : Bool := allFrom l lo hi 0 l.length
theorem allFrom_iff (l : List Int) (lo hi : Int) : ∀ d i, allFrom l lo hi i d = true ↔ ∀ j : Nat, i ≤ j → j < i + d → lo ≤ rd l j ∧ rd l j ≤ hi := by
  intro d
  induction d with
  | zero => intro i; simp only [allFrom, true_iff]; intro j h1 h2; omega
  | succ d ih =>
    intro i
    simp only [allFrom, Bool.and_eq_true, ih, inn_t]
    constructor
    · rintro ⟨h1, h3⟩ j hj hj2
      by_cases e : j = i
      · subst e; exact h1
      · exact h3 j (by omega) (by omega)
    · intro h
      exact ⟨h i (Nat.le_refl _) (by omega), fun j hj hj2 => h j (by omega) (by omega)⟩
theorem allIn_bd {l : List Int} {lo hi : Int} (h : allIn l lo hi = true) : ∀ x ∈ l, lo ≤ x ∧ x ≤ hi := by
  intro x hx
  obtain ⟨i, hi', rfl⟩ := List.mem_iff_getElem.1 hx
  have := (allFrom_iff l lo hi l.length 0).1 h i (by omega) (by omega)
  rw [rd_eq, List.getD_eq_getElem?_getD, List.getElem?_eq_getElem hi'] at this
  exact this
theorem allIn_of {l : List Int} {lo hi : Int} (h : ∀ x ∈ l, lo ≤ x ∧ x ≤ hi) : allIn l lo hi = true := (allFrom_iff l lo hi l.length 0).2 fun j _ hj => h _ (rd_mem l j (by omega))
theorem l1All_l0 (l : List Int) (lo hi : Int) (hn : l.length ≤ 100000000000000) (d : Nat) : ∀ (k i : Nat), i + d = l.length → d < k → spec_l1All.l0 k lo hi l (l.length : Int) i = some (allFrom l lo hi i d) := by
  induction d with
  | zero =>
    intro k i hi' hk
    obtain ⟨k, rfl⟩ := step_k hk
    simp only [spec_l1All.l0]; rw [if_neg (by omega)]; rfl
  | succ d ih =>
    intro k i hi' hk
    obtain ⟨k, rfl⟩ := step_k hk
    simp only [spec_l1All.l0, l1In_f, Option.bind_some]
    rw [if_pos (by omega), if_pos (by omega), if_pos (by omega), w64s (by omega), ih k (i + 1) (by omega) (by omega)]
    simp only [allFrom]
    by_cases h1 : inn (rd l i) lo hi = true
    · rw [if_pos h1, h1]; simp
    · rw [if_neg h1]; simp [h1]
theorem l1All_f {k : Nat} {l : List Int} {lo hi : Int} (hn : l.length ≤ 100000000000000) (hk : l.length < k) : spec_l1All.f k l lo hi = some (allIn l lo hi) := by
  unfold spec_l1All.f
  exact l1All_l0 l lo hi hn l.length k 0 (by omega) hk
theorem IndexFunc_l0 (l : List Int) (hn : l.length ≤ 100000000000000) (d : Nat) : ∀ (k i : Nat), i + d = l.length → d < k → ∃ r, slices_IndexFunc_int_int.l0 k l (l.length : Int) i = some r ∧ (0 ≤ r ↔ allFrom l 0 100000 i d = false) := by
  induction d with
  | zero =>
    intro k i hi' hk
    obtain ⟨k, rfl⟩ := step_k hk
    simp only [slices_IndexFunc_int_int.l0]
    rw [if_neg (by omega)]
    exact ⟨_, rfl, by simp [allFrom]⟩
  | succ d ih =>
    intro k i hi' hk
    obtain ⟨k, rfl⟩ := step_k hk
    obtain ⟨r, hr, hiff⟩ := ih k (i + 1) (by omega) (by omega)
    simp only [slices_IndexFunc_int_int.l0, impl_SparseOf_1.f, within_f, Option.bind_some]
    rw [if_pos (by omega), if_pos (by omega), if_pos (by omega), w64s (by omega)]
    simp only [allFrom]
    by_cases h1 : inn (rd l i) 0 100000 = true
    · rw [h1]
      simp only [Bool.not_true, Bool.false_eq_true, if_false, Bool.true_and]
      exact ⟨r, hr, hiff⟩
    · rw [Bool.eq_false_iff.2 h1]
      simp only [Bool.not_false, if_true, Bool.false_and]
      exact ⟨_, rfl, by simp⟩
theorem ContainsFunc_f {k : Nat} {l : List Int} {a : Int} (hn : l.length ≤ 100000000000000) (hk : l.length < k) : slices_ContainsFunc_int_int.f k l a = some (!allIn l 0 100000) := by
  unfold slices_ContainsFunc_int_int.f slices_IndexFunc_int_int.f
  obtain ⟨r, hr, hiff⟩ := IndexFunc_l0 l hn l.length k 0 (by omega) hk
  rw [show (0 : Int) = ((0 : Nat) : Int) from rfl, hr]
  simp only [Option.bind_some]
  congr 1
  unfold allIn
  rw [Bool.eq_iff_iff]
  simp only [decide_eq_true_eq, Bool.not_eq_true']
  exact hiff
def lesser (a b : Int) : Int := if a < b then a else b
theorem lesser_assoc (a b c : Int) : lesser (lesser a b) c = lesser a (lesser b c) := by unfold lesser; split <;> split <;> (try split) <;> omega
theorem l1Least_f (a b : Int) : spec_l1Least.f a b = some (lesser a b) := by
  unfold spec_l1Least.f lesser
  split <;> rfl
theorem mn_lesser (a b : Int) : mn a b = lesser a b := by unfold mn lesser; split <;> (try split) <;> omega
/-- The least of the n + 1 numbers from the i-th on. -/
def wm (l : List Int) (i : Nat) : Nat → Int
  | 0 => rd l (i : Int)
  | n + 1 => lesser (wm l i n) (rd l ((i + n + 1 : Nat) : Int))
theorem wm_two (l : List Int) (i a : Nat) : ∀ b, wm l i (a + b + 1) = lesser (wm l i a) (wm l (i + a + 1) b) := by
  intro b
  induction b with
  | zero => rfl
  | succ b ih =>
    show lesser (wm l i (a + b + 1)) (rd l ((i + (a + b + 1) + 1 : Nat) : Int)) = lesser (wm l i a) (lesser (wm l (i + a + 1) b) (rd l ((i + a + 1 + b + 1 : Nat) : Int)))
    rw [ih, lesser_assoc, show i + (a + b + 1) + 1 = i + a + 1 + b + 1 by omega]
def rowTo (l : List Int) (m i : Nat) : List Int := (List.range i).map fun j : Nat => wm l j (m - 1)
theorem rowTo_len (l : List Int) (m i : Nat) : (rowTo l m i).length = i := by simp [rowTo]
theorem rowTo_succ (l : List Int) (m i : Nat) : rowTo l m (i + 1) = rowTo l m i ++ [wm l i (m - 1)] := by simp [rowTo, List.range_succ]
theorem rowTo_rd (l : List Int) (m i j : Nat) (h : j < i) : rd (rowTo l m i) (j : Int) = wm l j (m - 1) := by
  simp [rowTo, rd, List.getD_eq_getElem?_getD, h]
def rowOf (l : List Int) (m : Nat) : List Int := rowTo l m (l.length - m + 1)
theorem rowOf_one (l : List Int) (h : 1 ≤ l.length) : rowOf l 1 = l := by
  unfold rowOf rowTo
  apply List.ext_getElem?
  intro j
  by_cases hj : j < l.length
  · rw [rd_get l j hj]
    simp only [List.getElem?_map]
    rw [List.getElem?_range (by omega)]
    rfl
  · rw [List.getElem?_eq_none (by simp; omega), List.getElem?_eq_none (by omega)]
/-- The rows for m, 2m, 4m, .. -/
def tabl (l : List Int) : Nat → Nat → List (List Int)
  | 0, _ => []
  | f + 1, m => if m ≤ l.length then rowOf l m :: tabl l f (2 * m) else []
theorem tabl_len (l : List Int) : ∀ f m, (tabl l f m).length ≤ f := by
  intro f
  induction f with
  | zero => intro m; simp [tabl]
  | succ f ih =>
    intro m
    simp only [tabl]
    split
    · have := ih (2 * m); simp only [List.length_cons]; omega
    · simp
theorem tabl_rows (l : List Int) : ∀ f m, ∀ x ∈ tabl l f m, x.length ≤ l.length + 1 := by
  intro f
  induction f with
  | zero => intro m; simp [tabl]
  | succ f ih =>
    intro m x hx
    simp only [tabl] at hx
    split at hx
    · rcases List.mem_cons.1 hx with rfl | h
      · unfold rowOf; rw [rowTo_len]; omega
      · exact ih _ x h
    · simp at hx
def table (l : List Int) : List (List Int) := tabl l (l.length + 1) 1
theorem tdiv2 (h : Nat) : Int.tdiv ((2 * h : Nat) : Int) 2 = (h : Int) := by
  rw [Int.tdiv_eq_ediv_of_nonneg (by omega)]; omega
theorem spec_l4Sparse_l1 {l : List Int} (hl : l.length ≤ 60) (x3 : List (List Int)) (h3 : x3.length ≤ 1000) (h : Nat) (hh : 1 ≤ h) (hm : 2 * h ≤ l.length) (K : Nat) (R : Option (List (List Int)))
    (hR : ∀ k', K < k' → spec_l4Sparse.l0 k' l (x3 ++ [rowOf l (2 * h)]) ((2 * (2 * h) : Nat) : Int) = R) :
    ∀ (d i k : Nat), i + d = l.length - 2 * h + 1 → K + d + 1 < k → spec_l4Sparse.l1 k l x3 ((2 * h : Nat) : Int) (rowOf l h) (rowTo l (2 * h) i) (i : Int) = R := by
  intro d
  induction d with
  | zero =>
    intro i k hi hk
    obtain ⟨k, rfl⟩ : ∃ m, k = m + 1 := ⟨k - 1, by omega⟩
    simp only [spec_l4Sparse.l1]
    rw [w64 (n := (i : Int) + ((2 * h : Nat) : Int)) (by omega) (by omega), if_neg (by omega), if_pos (by omega), w64 (by omega) (by omega)]
    have := hR k (by omega)
    rw [show ((2 * h : Nat) : Int) * 2 = ((2 * (2 * h) : Nat) : Int) by omega, show i = l.length - 2 * h + 1 by omega]
    exact this
  | succ d ih =>
    intro i k hi hk
    obtain ⟨k, rfl⟩ : ∃ m, k = m + 1 := ⟨k - 1, by omega⟩
    have hrl : (rowOf l h).length = l.length - h + 1 := by unfold rowOf; rw [rowTo_len]
    simp only [spec_l4Sparse.l1]
    rw [tdiv2, w64 (n := (i : Int) + ((2 * h : Nat) : Int)) (by omega) (by omega), w64 (n := (h : Int)) (by omega) (by omega), w64 (n := (i : Int) + (h : Int)) (by omega) (by omega)]
    rw [if_pos (by omega), if_pos (by omega), if_pos (by omega), if_pos (by omega), if_pos (by omega), l1Least_f]
    simp only [Option.bind_some]
    have e : lesser (rd (rowOf l h) (i : Int)) (rd (rowOf l h) ((i : Int) + (h : Int))) = wm l i (2 * h - 1) := by
      rw [show (i : Int) + (h : Int) = ((i + h : Nat) : Int) by omega]
      unfold rowOf
      rw [rowTo_rd l h _ i (by omega), rowTo_rd l h _ (i + h) (by omega)]
      have := wm_two l i (h - 1) (h - 1)
      rw [show h - 1 + (h - 1) + 1 = 2 * h - 1 by omega, show i + (h - 1) + 1 = i + h by omega] at this
      exact this.symm
    rw [e, if_pos (by rw [rowTo_len]; omega), ← rowTo_succ, w64s (by omega)]
    exact ih (i + 1) k (by omega) (by omega)
theorem spec_l4Sparse_l0 {l : List Int} (hl : l.length ≤ 60) : ∀ (f h : Nat) (acc : List (List Int)) (k : Nat), 1 ≤ h → h ≤ l.length → l.length < 2 * h + f → acc.length + f ≤ 900 → f * 100 + 100 < k → spec_l4Sparse.l0 k l (acc ++ [rowOf l h]) ((2 * h : Nat) : Int) = some (acc ++ [rowOf l h] ++ tabl l f (2 * h)) := by
  intro f
  induction f with
  | zero =>
    intro h acc k h1 h2 h3 ha hk
    obtain ⟨k, rfl⟩ : ∃ m, k = m + 1 := ⟨k - 1, by omega⟩
    simp only [spec_l4Sparse.l0]
    rw [if_neg (by omega)]; simp [tabl]
  | succ f ih =>
    intro h acc k h1 h2 h3 ha hk
    obtain ⟨k, rfl⟩ : ∃ m, k = m + 1 := ⟨k - 1, by omega⟩
    simp only [spec_l4Sparse.l0, tabl]
    by_cases hm : 2 * h ≤ l.length
    · rw [if_pos (by omega), if_pos hm]
      have e1 : (((acc ++ [rowOf l h]).length : Int) - 1) = (acc.length : Int) := by rw [List.length_append, List.length_singleton]; omega
      rw [e1, w64 (by omega) (by omega), if_pos (by omega), if_pos (by rw [List.length_append, List.length_singleton]; omega), rdS_mid]
      refine spec_l4Sparse_l1 hl (acc ++ [rowOf l h]) (by rw [List.length_append, List.length_singleton]; omega) h h1 hm (f * 100 + 100) _ ?_ (l.length - 2 * h + 1) 0 k (by omega) (by omega)
      intro k' hk'
      rw [ih (2 * h) (acc ++ [rowOf l h]) k' (by omega) hm (by omega) (by rw [List.length_append, List.length_singleton]; omega) hk']
      simp
    · rw [if_neg (by omega), if_neg hm]; simp
theorem spec_l4Sparse_f {l : List Int} (h1 : 1 ≤ l.length) (hl : l.length ≤ 60) {k : Nat} (hk : 10000 < k) : spec_l4Sparse.f k l = some (table l) := by
  unfold spec_l4Sparse.f table
  simp only [Option.bind_some, List.nil_append]
  rw [if_pos (by simp; omega)]
  have := spec_l4Sparse_l0 hl l.length 1 [] k (by omega) (by omega) (by omega) (by simp; omega) (by omega)
  rw [rowOf_one l h1] at this
  simp only [tabl]
  rw [if_pos h1, rowOf_one l h1]
  exact this
theorem Min_l0 (xs l : List Int) (i m : Nat) (hm : xs.length = m) (hm2 : m ≤ 1000) (hx : ∀ j : Nat, j < m → rd xs (j : Int) = rd l ((i + j : Nat) : Int)) : ∀ (d j k : Nat), j + 1 + d = m → d < k → slices_Min_int_int.l0 k xs (wm l i j) ((j + 1 : Nat) : Int) = some (wm l i (m - 1)) := by
  intro d
  induction d with
  | zero =>
    intro j k hj hk
    obtain ⟨k, rfl⟩ : ∃ m, k = m + 1 := ⟨k - 1, by omega⟩
    simp only [slices_Min_int_int.l0]
    rw [if_neg (by omega), show j = m - 1 by omega]
  | succ d ih =>
    intro j k hj hk
    obtain ⟨k, rfl⟩ : ∃ m, k = m + 1 := ⟨k - 1, by omega⟩
    simp only [slices_Min_int_int.l0]
    rw [if_pos (by omega), if_pos (by omega), mn_lesser, hx (j + 1) (by omega), w64s (by omega)]
    exact ih (j + 1) k (by omega) (by omega)
theorem Min_f (l : List Int) (i m : Nat) (h1 : 1 ≤ m) (h2 : i + m ≤ l.length) (hl : m ≤ 1000) {k : Nat} (hk : m < k) : slices_Min_int_int.f k ((l.take (i + m)).drop i) = some (wm l i (m - 1)) := by
  unfold slices_Min_int_int.f
  have hlen : ((l.take (i + m)).drop i).length = m := by rw [List.length_drop, List.length_take]; omega
  have hx : ∀ j : Nat, j < m → rd ((l.take (i + m)).drop i) (j : Int) = rd l ((i + j : Nat) : Int) := by
    intro j hj
    rw [rd_eq, rd_eq, List.getD_eq_getElem?_getD, List.getD_eq_getElem?_getD, List.getElem?_drop, List.getElem?_take, if_pos (by omega)]
  rw [if_neg (by omega), if_pos (by omega)]
  have h0 := hx 0 (by omega)
  have := Min_l0 _ l i m hlen (by omega) hx (m - 1) 0 k (by omega) (by omega)
  rw [show ((0 : Nat) : Int) = 0 from rfl] at h0
  rw [h0]
  exact this
theorem impl_sparseOf_l1 {l : List Int} (hl : l.length ≤ 60) (x3 : List (List Int)) (h3 : x3.length ≤ 1000) (m : Nat) (hm1 : 1 ≤ m) (hm : m ≤ l.length) (K : Nat) (R : Option (List (List Int)))
    (hR : ∀ k', K < k' → impl_sparseOf.l0 k' l (x3 ++ [rowOf l m]) ((2 * m : Nat) : Int) = R) :
    ∀ (d i k : Nat), i + d = l.length - m + 1 → K + d + 100 < k → impl_sparseOf.l1 k l x3 (m : Int) (rowTo l m i) (i : Int) = R := by
  intro d
  induction d with
  | zero =>
    intro i k hi hk
    obtain ⟨k, rfl⟩ : ∃ m, k = m + 1 := ⟨k - 1, by omega⟩
    simp only [impl_sparseOf.l1]
    rw [w64 (n := (i : Int) + (m : Int)) (by omega) (by omega), if_neg (by omega), if_pos (by omega), w64 (by omega) (by omega)]
    have := hR k (by omega)
    rw [show (m : Int) * 2 = ((2 * m : Nat) : Int) by omega, show i = l.length - m + 1 by omega]
    exact this
  | succ d ih =>
    intro i k hi hk
    obtain ⟨k, rfl⟩ : ∃ m, k = m + 1 := ⟨k - 1, by omega⟩
    simp only [impl_sparseOf.l1]
    rw [w64 (n := (i : Int) + (m : Int)) (by omega) (by omega), if_pos (by omega), if_pos (by omega), if_pos (by omega), show ((i : Int) + (m : Int)).toNat = i + m by omega, Int.toNat_natCast, Min_f l i m hm1 (by omega) (by omega) (by omega)]
    simp only [Option.bind_some]
    rw [if_pos (by rw [rowTo_len]; omega), ← rowTo_succ, w64s (by omega)]
    exact ih (i + 1) k (by omega) (by omega)
theorem impl_sparseOf_l0 {l : List Int} (hl : l.length ≤ 60) : ∀ (f m : Nat) (acc : List (List Int)) (k : Nat), 1 ≤ m → l.length < m + f → acc.length + f ≤ 900 → f * 300 + 300 < k → impl_sparseOf.l0 k l acc (m : Int) = some (acc ++ tabl l f m) := by
  intro f
  induction f with
  | zero =>
    intro m acc k h1 h3 ha hk
    obtain ⟨k, rfl⟩ : ∃ m, k = m + 1 := ⟨k - 1, by omega⟩
    simp only [impl_sparseOf.l0]
    rw [if_neg (by omega)]; simp [tabl]
  | succ f ih =>
    intro m acc k h1 h3 ha hk
    obtain ⟨k, rfl⟩ : ∃ m, k = m + 1 := ⟨k - 1, by omega⟩
    simp only [impl_sparseOf.l0, tabl]
    by_cases hm : m ≤ l.length
    · rw [if_pos (by omega), if_pos hm]
      refine impl_sparseOf_l1 hl acc (by omega) m h1 hm (f * 300 + 300) _ ?_ (l.length - m + 1) 0 k (by omega) (by omega)
      intro k' hk'
      rw [ih (2 * m) (acc ++ [rowOf l m]) k' (by omega) (by omega) (by rw [List.length_append, List.length_singleton]; omega) hk']
      simp
    · rw [if_neg (by omega), if_neg hm]; simp
theorem impl_sparseOf_f {l : List Int} (hl : l.length ≤ 60) {k : Nat} (hk : 50000 < k) : impl_sparseOf.f k l = some (table l) := by
  unfold impl_sparseOf.f table
  have := impl_sparseOf_l0 hl (l.length + 1) 1 [] k (by omega) (by omega) (by simp; omega) (by omega)
  simpa using this
def okN (l : List Int) : Bool := inn (l.length : Int) 1 60 && allIn l 0 100000
theorem okN_len {l : List Int} (h : okN l = true) : 1 ≤ l.length ∧ l.length ≤ 60 := by
  unfold okN at h
  rw [Bool.and_eq_true, inn_t] at h
  omega
def sparse (l : List Int) : List (List Int) × Bool := if okN l then (table l, true) else ([], false)
theorem sparse_small (l : List Int) : (sparse l).1.length ≤ 100 ∧ ∀ x ∈ (sparse l).1, x.length ≤ 100 := by
  unfold sparse
  split
  · rename_i h
    have h2 := okN_len h
    refine ⟨?_, ?_⟩
    · have := tabl_len l (l.length + 1) 1
      show (table l).length ≤ 100
      unfold table; omega
    · intro x hx
      have := tabl_rows l (l.length + 1) 1 x hx
      omega
  · simp
theorem l4Numbers_f {k : Nat} {l : List Int} (hn : l.length ≤ 100000000000000) (hk : l.length < k) : spec_l4Numbers.f k l = some (okN l) := by
  unfold spec_l4Numbers.f okN
  simp only [l1In_f, Option.bind_some]
  by_cases h : inn (l.length : Int) 1 60 = true
  · rw [if_pos h, h, Bool.true_and, l1All_f hn hk]; rfl
  · rw [if_neg h]; simp [h]
theorem impl_SparseOf_f {k : Nat} {l : List Int} (hn : l.length ≤ 100000000000000) (hk : l.length + 60000 < k) : impl_SparseOf.f k l = some (sparse l) := by
  unfold impl_SparseOf.f sparse okN
  simp only [within_f, Option.bind_some]
  by_cases h : inn (l.length : Int) 1 60 = true
  · have h2 := inn_t.1 h
    rw [if_pos h, h, Bool.true_and, ContainsFunc_f hn (by omega)]
    simp only [Option.bind_some]
    by_cases h3 : allIn l 0 100000 = true
    · rw [h3]
      simp only [Bool.not_true, Bool.false_eq_true, if_false, if_true]
      rw [impl_sparseOf_f (by omega) (by omega)]; rfl
    · rw [Bool.eq_false_iff.2 h3]; simp
  · rw [if_neg h]; simp [h]
theorem spec_SparseOf_f {k : Nat} {l : List Int} (hn : l.length ≤ 100000000000000) (hk : l.length + 60000 < k) : spec_SparseOf.f k l = some (sparse l) := by
  unfold spec_SparseOf.f sparse
  rw [l4Numbers_f hn (by omega)]
  simp only [Option.bind_some]
  by_cases h : okN l = true
  · have h2 := okN_len h
    rw [if_pos h, if_pos h, spec_l4Sparse_f h2.1 h2.2 (by omega)]; rfl
  · rw [if_neg h, if_neg h]
theorem FnExactSparseOf : ∀ (l0 : List (Int)), l0.length * 8 ≤ 140737488351232 → (∀ v ∈ l0, (Lit.int .i64 v).wf = true) → ∃ k, laws_FnExactSparseOf.f k l0 = some true := by
  intro l
  intros
  suffices h : ∀ k, 2058990 ≤ k → laws_FnExactSparseOf.f k l = some true from ⟨_, h _ (Nat.le_refl _)⟩
  intro k hk
  unfold laws_FnExactSparseOf.f
  by_cases h : (l.length : Int) > 1048576
  · rw [if_pos h]
  · rw [if_neg h]
    obtain ⟨m, hm1, hm2⟩ : ∃ m, k = m + 3 ∧ 2058980 ≤ m := ⟨k - 3, by omega, by omega⟩
    rw [hm1]
    obtain ⟨hr1, hr2⟩ := sparse_small l
    have ht := tot_le 100 _ hr2
    have hE : ∀ k, 2058980 ≤ k → laws_eqIntSS.f k (sparse l).1 (sparse l).1 = some true := fun k hk => eqIntSS_f (R := 100) hr2 (by omega) (by omega) (by omega)
    have hM : ∀ k, 2058980 ≤ k → laws_markIntSS.f k (sparse l).1 1 = some (1 + (tot (sparse l).1 : Int), marksS 1 (sparse l).1) := fun k hk => markIntSS_f (R := 100) hr2 (by omega) (by omega) (by omega) (by omega) (by omega)
    have hH : ∀ k, 2058980 ≤ k → laws_heldIntSS.f k (marksS 1 (sparse l).1) 1 = some (1 + (tot (sparse l).1 : Int)) := fun k hk => heldIntSS_f (R := 100) hr2 (by omega) (by omega) (by omega) (by omega) (by omega)
    have hneg : (1 + (tot (sparse l).1 : Int) < 0) = False := eq_false (by omega)
    simp (disch := omega) only [toIntS_f, spec_SparseOf_f, impl_SparseOf_f, eqIntS_f, hE, markIntS_f, Option.bind_some, bne_self_eq_false, laws_FnExactSparseOf.j0, Bool.false_eq_true, if_false, if_true]
    rw [if_neg (by omega)]
    simp (disch := omega) only [toIntS_f, impl_SparseOf_f, hE, hM, hH, Option.bind_some, bne_self_eq_false, laws_FnExactSparseOf.j1, laws_FnExactSparseOf.j2, Bool.false_eq_true, if_false, if_true, hneg]

end Go.Proofs.Ytdjdkabblfccjaa.Pure
