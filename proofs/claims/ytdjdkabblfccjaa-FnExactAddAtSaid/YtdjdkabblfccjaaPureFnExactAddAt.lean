/- The program's AddAt and the reference's return the same at every list of sums and every two integers, in memory of their own, and leave the sums as they are. No condition. -/
import Derived.Test.YtdjdkabblfccjaaPFnExactAddAtx0
import Derived.Test.YtdjdkabblfccjaaPFnExactAddAtx1
import Derived.Test.YtdjdkabblfccjaaPFnExactAddAtx2
import Derived.Test.YtdjdkabblfccjaaPFnExactAddAtx3
import Derived.Test.YtdjdkabblfccjaaPFnExactAddAtx4
import Derived.Test.YtdjdkabblfccjaaPFnExactAddAtx5
namespace Go.Proofs.Ytdjdkabblfccjaa.Pure
open Go.RowKit Go.Proofs.Ytdjdkabblfccjaa.PFnExactAddAt Go.Proofs.YtdjdkabblfccjaaW.PrintWords Go.Proofs.YtdjdkabblfccjaaW.PrintLast Go.Proofs.YtdjdkabblfccjaaW.PrintMore
set_option linter.unusedVariables false
set_option linter.unusedSimpArgs false
theorem w64 {n : Int} (h0 : -9223372036854775808 ≤ n) (h1 : n ≤ 9223372036854775807) : wrap64 n = n := by unfold wrap64; omega
theorem w64s {i : Nat} (h1 : i ≤ 1000000000000000) : wrap64 ((i : Int) + 1) = ((i + 1 : Nat) : Int) := by rw [w64 (by omega) (by omega)]; omega
theorem rd_eq (l : List Int) (i : Nat) : rd l (i : Int) = l.getD i 0 := by simp [rd]
theorem rd_get (l : List Int) (i : Nat) (h : i < l.length) : l[i]? = some (rd l (i : Int)) := by
  simp [rd, List.getD_eq_getElem?_getD, List.getElem?_eq_getElem h]
theorem rd_mem (l : List Int) (i : Nat) (h : i < l.length) : rd l (i : Int) ∈ l := List.mem_of_getElem? (rd_get l i h)
theorem step_k {k d : Nat} (h : d < k) : ∃ m, k = m + 1 := ⟨k - 1, by omega⟩

def inn (a b c : Int) : Bool := decide (b ≤ a ∧ a ≤ c)
theorem inn_t {a b c : Int} : inn a b c = true ↔ b ≤ a ∧ a ≤ c := by simp [inn]
theorem inn_f {a b c : Int} : inn a b c = false ↔ a < b ∨ c < a := by simp [inn]; omega
theorem l1In_f (a b c : Int) : spec_l1In.f a b c = some (inn a b c) := by
  unfold spec_l1In.f inn
  by_cases h : a ≥ b
  · rw [if_pos h]; simp [show b ≤ a from h]
  · rw [if_neg h]; simp [show ¬ b ≤ a from h]
theorem within_f (a b c : Int) : impl_within.f a b c = some (inn a b c) := by
  unfold impl_within.f inn
  by_cases h : a ≥ b
  · rw [if_pos h]; simp [show b ≤ a from h]
  · rw [if_neg h]; simp [show ¬ b ≤ a from h]

theorem i64_bd {v : Int} (h : (Lit.int .i64 v).wf = true) : -9223372036854775808 ≤ v ∧ v ≤ 9223372036854775807 := by
  simp [Lit.wf, IntKind.min, IntKind.max, IntKind.signed, IntKind.bits] at h
  exact h

theorem eqIntS_l0 (l : List Int) (hn : l.length ≤ 100000000000000) (d : Nat) : ∀ (k i : Nat), i + d = l.length → d < k → laws_eqIntS.l0 k l l i = some true := by
  induction d with
  | zero =>
    intro k i hi hk
    obtain ⟨k, rfl⟩ := step_k hk
    simp only [laws_eqIntS.l0]; rw [if_neg (by omega)]
  | succ d ih =>
    intro k i hi hk
    obtain ⟨k, rfl⟩ := step_k hk
    simp only [laws_eqIntS.l0]
    rw [if_pos (by omega), if_pos (by omega), if_pos (by omega), if_true, w64s (by omega)]
    exact ih k (i + 1) (by omega) (by omega)
theorem eqIntS_f {k : Nat} {l : List Int} (hn : l.length ≤ 100000000000000) (hk : l.length < k) : laws_eqIntS.f k l l = some true := by
  unfold laws_eqIntS.f
  rw [if_pos rfl]
  exact eqIntS_l0 l hn l.length k 0 (by omega) hk

theorem toIntS_l0 (l : List Int) (hn : l.length ≤ 100000000000000) (d : Nat) : ∀ (k : Nat) (x : List Int) (i : Nat), x.length = l.length → i + d = l.length → d < k → (∀ j, j < i → x[j]? = l[j]?) →
    laws_toIntS.l0 k l x i = some l := by
  induction d with
  | zero =>
    intro k x i hx hi hk hp
    obtain ⟨k, rfl⟩ := step_k hk
    simp only [laws_toIntS.l0]; rw [if_neg (by omega)]
    congr 1
    apply List.ext_getElem?
    intro j
    by_cases h : j < i
    · exact hp j h
    · rw [List.getElem?_eq_none (by omega), List.getElem?_eq_none (by omega)]
  | succ d ih =>
    intro k x i hx hi hk hp
    obtain ⟨k, rfl⟩ := step_k hk
    simp only [laws_toIntS.l0]
    rw [if_pos (by omega), if_pos (by omega), if_pos (by omega), w64s (by omega)]
    refine ih k _ (i + 1) (by simpa using hx) (by omega) (by omega) ?_
    intro j hj
    rw [Int.toNat_natCast, List.getElem?_set]
    by_cases h : i = j
    · subst h
      rw [if_pos rfl, if_pos (by omega)]
      exact (rd_get l i (by omega)).symm
    · rw [if_neg h]; exact hp j (by omega)
theorem toIntS_f {k : Nat} {l : List Int} (hn : l.length ≤ 35184372088832) (hk : l.length < k) : laws_toIntS.f k l = some l := by
  unfold laws_toIntS.f
  rw [if_pos (by omega), if_pos (by omega)]
  exact toIntS_l0 l (by omega) l.length k _ 0 (by simp) (by omega) hk (by intro j hj; omega)

def allFrom (l : List Int) (lo hi : Int) : Nat → Nat → Bool
  | _, 0 => true
  | i, d + 1 => inn (rd l i) lo hi && allFrom l lo hi (i + 1) d
def allIn (l : List Int) (lo hi : Int) : Bool := allFrom l lo hi 0 l.length
theorem allFrom_iff (l : List Int) (lo hi : Int) : ∀ d i, allFrom l lo hi i d = true ↔ ∀ j : Nat, i ≤ j → j < i + d → lo ≤ rd l j ∧ rd l j ≤ hi := by
  intro d
  induction d with
  | zero => intro i; simp only [allFrom, true_iff]; intro j h1 h2; omega
  | succ d ih =>
    intro i
    simp only [allFrom, Bool.and_eq_true, ih, inn_t]
    constructor
    · rintro ⟨h1, h3⟩ j hj hj2
      by_cases e : j = i
      · subst e; exact h1
      · exact h3 j (by omega) (by omega)
    · intro h
      exact ⟨h i (Nat.le_refl _) (by omega), fun j hj hj2 => h j (by omega) (by omega)⟩
theorem allIn_bd {l : List Int} {lo hi : Int} (h : allIn l lo hi = true) : ∀ x ∈ l, lo ≤ x ∧ x ≤ hi := by
  intro x hx
  obtain ⟨i, hi', rfl⟩ := List.mem_iff_getElem.1 hx
  have := (allFrom_iff l lo hi l.length 0).1 h i (by omega) (by omega)
  rw [rd_eq, List.getD_eq_getElem?_getD, List.getElem?_eq_getElem hi'] at this
  exact this
theorem allIn_of {l : List Int} {lo hi : Int} (h : ∀ x ∈ l, lo ≤ x ∧ x ≤ hi) : allIn l lo hi = true := (allFrom_iff l lo hi l.length 0).2 fun j _ hj => h _ (rd_mem l j (by omega))

theorem l1All_l0 (l : List Int) (lo hi : Int) (hn : l.length ≤ 100000000000000) (d : Nat) : ∀ (k i : Nat), i + d = l.length → d < k → spec_l1All.l0 k lo hi l (l.length : Int) i = some (allFrom l lo hi i d) := by
  induction d with
  | zero =>
    intro k i hi' hk
    obtain ⟨k, rfl⟩ := step_k hk
    simp only [spec_l1All.l0]; rw [if_neg (by omega)]; rfl
  | succ d ih =>
    intro k i hi' hk
    obtain ⟨k, rfl⟩ := step_k hk
    simp only [spec_l1All.l0, l1In_f, Option.bind_some]
    rw [if_pos (by omega), if_pos (by omega), if_pos (by omega), w64s (by omega), ih k (i + 1) (by omega) (by omega)]
    simp only [allFrom]
    by_cases h1 : inn (rd l i) lo hi = true
    · rw [if_pos h1, h1]; simp
    · rw [if_neg h1]; simp [h1]
theorem l1All_f {k : Nat} {l : List Int} {lo hi : Int} (hn : l.length ≤ 100000000000000) (hk : l.length < k) : spec_l1All.f k l lo hi = some (allIn l lo hi) := by
  unfold spec_l1All.f
  exact l1All_l0 l lo hi hn l.length k 0 (by omega) hk

def sumL : List Int → Int
  | [] => 0
  | x :: l => x + sumL l
theorem sumL_append (a b : List Int) : sumL (a ++ b) = sumL a + sumL b := by
  induction a with
  | nil => simp [sumL]
  | cons x a ih => simp only [List.cons_append, sumL, ih]; omega
theorem sumL_bd {l : List Int} {M : Int} (h : ∀ x ∈ l, 0 ≤ x ∧ x ≤ M) : 0 ≤ sumL l ∧ sumL l ≤ M * l.length := by
  induction l with
  | nil => simp [sumL]
  | cons x l ih =>
    have h1 := h x (by simp)
    have h2 := ih fun y hy => h y (by simp [hy])
    simp only [sumL, List.length_cons]
    have : M * ((l.length + 1 : Nat) : Int) = M * l.length + M := by rw [Int.natCast_add, Int.mul_add]; simp
    omega
theorem drop_rd (l : List Int) (i : Nat) (h : i < l.length) : l.drop i = rd l i :: l.drop (i + 1) := by
  rw [List.drop_eq_getElem_cons h]
  congr 1
  rw [rd_eq, List.getD_eq_getElem?_getD, List.getElem?_eq_getElem h]; rfl

def sabs : List Int → Int
  | [] => 0
  | x :: l => (if x < 0 then -x else x) + sabs l
theorem sabs_nn (l : List Int) : 0 ≤ sabs l := by
  induction l with
  | nil => simp [sabs]
  | cons x l ih => simp only [sabs]; split <;> omega
theorem sabs_append (a b : List Int) : sabs (a ++ b) = sabs a + sabs b := by
  induction a with
  | nil => simp [sabs]
  | cons x a ih => simp only [List.cons_append, sabs, ih]; omega
theorem sabs_drop (l : List Int) (i : Nat) : sabs (l.drop i) ≤ sabs l := by
  have h := sabs_append (l.take i) (l.drop i)
  rw [List.take_append_drop] at h
  have := sabs_nn (l.take i)
  omega
theorem sabs_take (l : List Int) (i : Nat) : sabs (l.take i) ≤ sabs l := by
  have h := sabs_append (l.take i) (l.drop i)
  rw [List.take_append_drop] at h
  have := sabs_nn (l.drop i)
  omega
theorem sumL_abs (l : List Int) : -sabs l ≤ sumL l ∧ sumL l ≤ sabs l := by
  induction l with
  | nil => simp [sabs, sumL]
  | cons x l ih => simp only [sabs, sumL]; split <;> omega
theorem sabs_bd {l : List Int} {M : Int} (h : ∀ x ∈ l, 0 ≤ x ∧ x ≤ M) : sabs l ≤ M * l.length := by
  induction l with
  | nil => simp [sabs]
  | cons x l ih =>
    have h1 := h x (by simp)
    have h2 := ih fun y hy => h y (by simp [hy])
    simp only [sabs, List.length_cons]
    have : M * ((l.length + 1 : Nat) : Int) = M * l.length + M := by rw [Int.natCast_add, Int.mul_add]; simp
    rw [if_neg (by omega)]
    omega

theorem spec_l1Sum_l0 (l : List Int) (hn : l.length ≤ 1000000) (d : Nat) : ∀ (k i : Nat) (acc : Int), sabs (l.drop i) - 1000000000000000000 ≤ acc → acc ≤ 1000000000000000000 - sabs (l.drop i) → i + d = l.length → d < k → spec_l1Sum.l0 k acc l (l.length : Int) i = some (acc + sumL (l.drop i)) := by
  induction d with
  | zero =>
    intro k i acc _ _ hi' hk
    obtain ⟨k, rfl⟩ := step_k hk
    simp only [spec_l1Sum.l0]; rw [if_neg (by omega), List.drop_eq_nil_of_le (by omega)]; simp [sumL]
  | succ d ih =>
    intro k i acc h0 h1 hi' hk
    obtain ⟨k, rfl⟩ := step_k hk
    rw [drop_rd l i (by omega)] at h0 h1
    simp only [sabs] at h0 h1
    have hb := sabs_nn (l.drop (i + 1))
    have hc : -(if rd l i < 0 then -rd l i else rd l i) ≤ rd l i ∧ rd l i ≤ (if rd l i < 0 then -rd l i else rd l i) := by split <;> omega
    simp only [spec_l1Sum.l0]
    rw [if_pos (by omega), if_pos (by omega), if_pos (by omega), w64s (by omega), w64 (n := acc + rd l i) (by omega) (by omega), ih k (i + 1) _ (by omega) (by omega) (by omega) (by omega), drop_rd l i (by omega)]
    simp only [sumL]
    congr 1; omega
theorem spec_l1Sum_f {k : Nat} {l : List Int} (h : sabs l ≤ 1000000000000000000) (hn : l.length ≤ 1000000) (hk : l.length < k) : spec_l1Sum.f k l = some (sumL l) := by
  unfold spec_l1Sum.f
  have := spec_l1Sum_l0 l hn l.length k 0 0 (by simp only [List.drop_zero]; omega) (by simp only [List.drop_zero]; omega) (by omega) hk
  simpa using this

theorem impl_sumOf_l0 (l : List Int) (hn : l.length ≤ 1000000) (d : Nat) : ∀ (k i : Nat) (acc : Int), sabs (l.drop i) - 1000000000000000000 ≤ acc → acc ≤ 1000000000000000000 - sabs (l.drop i) → i + d = l.length → d < k → impl_sumOf.l0 k acc l (l.length : Int) i = some (acc + sumL (l.drop i)) := by
  induction d with
  | zero =>
    intro k i acc _ _ hi' hk
    obtain ⟨k, rfl⟩ := step_k hk
    simp only [impl_sumOf.l0]; rw [if_neg (by omega), List.drop_eq_nil_of_le (by omega)]; simp [sumL]
  | succ d ih =>
    intro k i acc h0 h1 hi' hk
    obtain ⟨k, rfl⟩ := step_k hk
    rw [drop_rd l i (by omega)] at h0 h1
    simp only [sabs] at h0 h1
    have hb := sabs_nn (l.drop (i + 1))
    have hc : -(if rd l i < 0 then -rd l i else rd l i) ≤ rd l i ∧ rd l i ≤ (if rd l i < 0 then -rd l i else rd l i) := by split <;> omega
    simp only [impl_sumOf.l0]
    rw [if_pos (by omega), if_pos (by omega), if_pos (by omega), w64s (by omega), w64 (n := acc + rd l i) (by omega) (by omega), ih k (i + 1) _ (by omega) (by omega) (by omega) (by omega), drop_rd l i (by omega)]
    simp only [sumL]
    congr 1; omega
theorem impl_sumOf_f {k : Nat} {l : List Int} (h : sabs l ≤ 1000000000000000000) (hn : l.length ≤ 1000000) (hk : l.length < k) : impl_sumOf.f k l = some (sumL l) := by
  unfold impl_sumOf.f
  have := impl_sumOf_l0 l hn l.length k 0 0 (by simp only [List.drop_zero]; omega) (by simp only [List.drop_zero]; omega) (by omega) hk
  simpa using this

def loE (i : Nat) : Int := wrap64 ((wrap64 ((i : Int) + 1)) - (Go.bits .and .i64 (wrap64 ((i : Int) + 1)) (wrap64 (-(wrap64 ((i : Int) + 1))))))
def lo (i : Nat) : Nat := (loE i).toNat
theorem lo_all : ∀ i : Fin 32, 0 ≤ loE i.1 ∧ loE i.1 ≤ (i.1 : Int) := by decide +kernel
theorem lo_eq {i : Nat} (h : i < 32) : wrap64 ((wrap64 ((i : Int) + 1)) - (Go.bits .and .i64 (wrap64 ((i : Int) + 1)) (wrap64 (-(wrap64 ((i : Int) + 1)))))) = (lo i : Int) := by
  have := lo_all ⟨i, h⟩
  show loE i = _
  unfold lo
  simp only at this
  omega
theorem lo_le {i : Nat} (h : i < 32) : lo i ≤ i := by
  have := lo_all ⟨i, h⟩
  unfold lo
  simp only at this
  omega
attribute [irreducible] lo

def cellL (x : List Int) : List Int := (List.range x.length).map fun i => sumL ((x.take (i + 1)).drop (lo i))
theorem cellL_len (x : List Int) : (cellL x).length = x.length := by simp [cellL]
theorem cellL_at (x : List Int) (i : Nat) (h : i < x.length) : (cellL x)[i]? = some (sumL ((x.take (i + 1)).drop (lo i))) := by
  simp [cellL, h]
theorem seg_abs (x : List Int) (a b : Nat) (h : sabs x ≤ 1000000000000000000) : sabs ((x.take a).drop b) ≤ 1000000000000000000 := by
  have := sabs_drop (x.take a) b
  have := sabs_take x a
  omega

theorem cellsOf_l0 (l : List Int) (hs : sabs l ≤ 1000000000000000000) (hn : l.length ≤ 32) (d : Nat) : ∀ (k : Nat) (x : List Int) (i : Nat), x.length = l.length → i + d = l.length → d + 40 < k → (∀ j, j < i → x[j]? = (cellL l)[j]?) →
    impl_cellsOf.l0 k l x (l.length : Int) i = some (cellL l) := by
  induction d with
  | zero =>
    intro k x i hx hi hk hp
    obtain ⟨k, rfl⟩ : ∃ m, k = m + 1 := ⟨k - 1, by omega⟩
    simp only [impl_cellsOf.l0]; rw [if_neg (by omega)]
    congr 1
    apply List.ext_getElem?
    intro j
    by_cases h : j < i
    · exact hp j h
    · rw [List.getElem?_eq_none (by omega), List.getElem?_eq_none (by rw [cellL_len]; omega)]
  | succ d ih =>
    intro k x i hx hi hk hp
    obtain ⟨k, rfl⟩ : ∃ m, k = m + 1 := ⟨k - 1, by omega⟩
    have hlo := lo_le (i := i) (by omega)
    simp only [impl_cellsOf.l0]
    rw [lo_eq (by omega), w64s (by omega), if_pos (by omega), if_pos (by omega), if_pos (by omega), if_pos (by omega), Int.toNat_natCast, Int.toNat_natCast, impl_sumOf_f (seg_abs l _ _ hs) (by simp; omega) (by simp; omega)]
    simp only [Option.bind_some]
    rw [if_pos (by omega), if_pos (by omega)]
    refine ih k _ (i + 1) (by simpa using hx) (by omega) (by omega) ?_
    intro j hj
    rw [Int.toNat_natCast, List.getElem?_set]
    by_cases h : i = j
    · subst h
      rw [if_pos rfl, if_pos (by omega), cellL_at l i (by omega)]
    · rw [if_neg h]; exact hp j (by omega)
theorem cellsOf_f {k : Nat} {l : List Int} (hs : sabs l ≤ 1000000000000000000) (hn : l.length ≤ 32) (hk : 80 < k) : impl_cellsOf.f k l = some (cellL l) := by
  unfold impl_cellsOf.f
  rw [if_pos (by omega), if_pos (by omega)]
  exact cellsOf_l0 l hs hn l.length k _ 0 (by simp) (by omega) (by omega) (by intro j hj; omega)

def okC (l : List Int) : Bool := inn (l.length : Int) 1 32 && allIn l 0 100000
theorem okC_len {l : List Int} (h : okC l = true) : 1 ≤ l.length ∧ l.length ≤ 32 := by
  simp only [okC, Bool.and_eq_true, inn_t] at h; omega
theorem okC_bd {l : List Int} (h : okC l = true) : ∀ x ∈ l, 0 ≤ x ∧ x ≤ 100000 := by
  simp only [okC, Bool.and_eq_true] at h; exact allIn_bd h.2
theorem okC_abs {l : List Int} (h : okC l = true) : sabs l ≤ 1000000000000000000 := by
  have h1 := sabs_bd (okC_bd h)
  have h2 := okC_len h
  omega
theorem l5List_f {k : Nat} {l : List Int} (hn : l.length ≤ 100000000000000) (hk : l.length < k) : spec_l5List.f k l = some (okC l) := by
  unfold spec_l5List.f okC
  simp (disch := assumption) only [l1In_f, l1All_f, Option.bind_some]
  by_cases h : inn (l.length : Int) 1 32 = true
  · rw [if_pos h, h, Bool.true_and]
  · rw [if_neg h]; simp [h]

def unp (c : List Int) : Nat → List Int → List Int
  | 0, acc => acc
  | d + 1, acc => unp c d (acc ++ [rd c acc.length - sumL (acc.drop (lo acc.length))])
theorem unp_pre (c : List Int) : ∀ d acc, ∃ t, unp c d acc = acc ++ t ∧ t.length = d := by
  intro d
  induction d with
  | zero => intro acc; exact ⟨[], by simp [unp]⟩
  | succ d ih =>
    intro acc
    obtain ⟨t, h1, h2⟩ := ih (acc ++ [rd c acc.length - sumL (acc.drop (lo acc.length))])
    exact ⟨[rd c acc.length - sumL (acc.drop (lo acc.length))] ++ t, by simp only [unp]; rw [h1, List.append_assoc], by simp; omega⟩
theorem unp_len (c : List Int) (d : Nat) (acc : List Int) : (unp c d acc).length = acc.length + d := by
  obtain ⟨t, h1, h2⟩ := unp_pre c d acc
  rw [h1]; simp; omega
def packEnd (x : List Int) : List Int × Bool := if okC x then (x, true) else ([], false)
def packRes (c : List Int) : List Int × Bool := if inn (c.length : Int) 1 32 then packEnd (unp c c.length []) else ([], false)
theorem packRes_ok {c : List Int} (h : (packRes c).2 = true) : okC (packRes c).1 = true := by
  unfold packRes packEnd at *
  split
  · rename_i h1
    rw [if_pos h1] at h
    split
    · rename_i h2; exact h2
    · rename_i h2; rw [if_neg h2] at h; simp at h
  · rename_i h1; rw [if_neg h1] at h; simp at h
theorem packRes_len (c : List Int) : (packRes c).1.length ≤ 32 := by
  by_cases h : (packRes c).2 = true
  · exact (okC_len (packRes_ok h)).2
  · unfold packRes packEnd at *
    split
    · rename_i h1
      rw [if_pos h1] at h
      split
      · rename_i h2; rw [if_pos h2] at h; simp at h
      · simp
    · simp
def bnd : Nat → Int
  | 0 => 3200000
  | i + 1 => 2 * bnd i
theorem bnd_z : bnd 0 = 3200000 := rfl
theorem bnd_s (i : Nat) : bnd (i + 1) = 2 * bnd i := rfl
theorem bnd_all : ∀ i : Fin 33, bnd i.1 ≤ 100000000000000000 := by decide +kernel
attribute [irreducible] bnd

theorem absStep {A B r s : Int} (h0 : 0 ≤ A) (h1 : A + 3200000 ≤ B) (h2 : 0 ≤ r ∧ r ≤ 3200000) (h3 : -A ≤ s) (h4 : s ≤ A) : A + sabs [r - s] + 3200000 ≤ 2 * B := by
  simp only [sabs]
  split <;> omega
theorem l5Back_l0 (c : List Int) (hb : ∀ x ∈ c, 0 ≤ x ∧ x ≤ 3200000) (hn : c.length ≤ 32) (d : Nat) : ∀ (k i : Nat) (acc : List Int), acc.length = i → i + d = c.length → sabs acc + 3200000 ≤ bnd i → d + 50 < k → spec_l5Back.l0 k acc c (c.length : Int) i = some (packEnd (unp c d acc)) := by
  induction d with
  | zero =>
    intro k i acc hl hi hs hk
    obtain ⟨k, rfl⟩ : ∃ m, k = m + 1 := ⟨k - 1, by omega⟩
    simp only [spec_l5Back.l0]; rw [if_neg (by omega), l5List_f (by omega) (by omega)]
    simp only [Option.bind_some, unp, packEnd]
    by_cases h : okC acc = true <;> simp [h]
  | succ d ih =>
    intro k i acc hl hi hs hk
    obtain ⟨k, rfl⟩ : ∃ m, k = m + 1 := ⟨k - 1, by omega⟩
    have hlo := lo_le (i := i) (by omega)
    have hB := bnd_all ⟨i, by omega⟩
    simp only at hB
    have hx := hb _ (rd_mem c i (by omega))
    have hd := sabs_drop acc (lo i)
    have hd2 := sumL_abs (acc.drop (lo i))
    have hA : sabs acc ≤ 200000000000000000 := by omega
    have hv : -9223372036854775808 ≤ rd c i - sumL (acc.drop (lo i)) ∧ rd c i - sumL (acc.drop (lo i)) ≤ 9223372036854775807 := by clear ih hB hs; omega
    simp only [spec_l5Back.l0]
    rw [if_pos (by omega), if_pos (by omega), if_pos (by omega), lo_eq (by omega), if_pos (by omega), if_pos (by omega), Int.toNat_natCast, spec_l1Sum_f (by omega) (by simp; omega) (by simp; omega)]
    simp only [Option.bind_some]
    rw [if_pos (by omega), w64s (by omega), w64 (n := rd c i - sumL (acc.drop (lo i))) hv.1 hv.2]
    rw [ih k (i + 1) _ (by simp; omega) (by omega) ?_ (by omega)]
    · simp only [unp, hl]
    · rw [sabs_append]
      rw [bnd_s]
      exact absStep (sabs_nn acc) hs hx (Int.le_trans (Int.neg_le_neg hd) hd2.1) (Int.le_trans hd2.2 hd)
theorem l5Back_f {k : Nat} {c : List Int} (hn : c.length ≤ 1048576) (hk : 1048700 < k) : spec_l5Back.f k c = some (if allIn c 0 3200000 then packRes c else ([], false)) := by
  obtain ⟨k, rfl⟩ : ∃ m, k = m + 1 := ⟨k - 1, by omega⟩
  unfold spec_l5Back.f packRes
  simp (disch := omega) only [l1In_f, l1All_f, Option.bind_some]
  by_cases h : inn (c.length : Int) 1 32 = true
  · rw [if_pos h, if_pos h]
    have h2 := inn_t.1 h
    by_cases h1 : allIn c 0 3200000 = true
    · rw [h1, if_pos rfl]
      simp only [Bool.not_true, spec_l5Back.j0, Bool.false_eq_true, if_false]
      exact l5Back_l0 c (allIn_bd h1) (by omega) c.length k 0 [] rfl (by omega) (by rw [bnd_z]; simp [sabs]) (by omega)
    · rw [Bool.eq_false_iff.2 h1]; simp [spec_l5Back.j0]
  · rw [if_neg h, if_neg h]; simp [spec_l5Back.j0]

theorem Equal_l0 (l : List Int) (hn : l.length ≤ 100000000000000) (d : Nat) : ∀ (k i : Nat), i + d = l.length → d < k → slices_Equal_int_int.l0 k l l (l.length : Int) i = some true := by
  induction d with
  | zero =>
    intro k i hi hk
    obtain ⟨k, rfl⟩ := step_k hk
    simp only [slices_Equal_int_int.l0]; rw [if_neg (by omega)]
  | succ d ih =>
    intro k i hi hk
    obtain ⟨k, rfl⟩ := step_k hk
    simp only [slices_Equal_int_int.l0]
    rw [if_pos (by omega), if_pos (by omega), if_pos (by omega), if_pos (by omega), if_true, w64s (by omega)]
    exact ih k (i + 1) (by omega) (by omega)
theorem Equal_f {k : Nat} {l : List Int} (hn : l.length ≤ 100000000000000) (hk : l.length < k) : slices_Equal_int_int.f k l l = some true := by
  unfold slices_Equal_int_int.f
  rw [if_pos rfl]
  exact Equal_l0 l hn l.length k 0 (by omega) hk

def fits (c acc : List Int) : Prop := ∀ j, j < acc.length → rd c j = sumL ((acc.take (j + 1)).drop (lo j))
theorem fits_add {c acc : List Int} (h : fits c acc) (hl : acc.length < 32) : fits c (acc ++ [rd c acc.length - sumL (acc.drop (lo acc.length))]) := by
  intro j hj
  simp at hj
  by_cases e : j = acc.length
  · subst e
    have := lo_le hl
    rw [List.take_of_length_le (by simp), List.drop_append_of_le_length this, sumL_append]
    simp only [sumL]; omega
  · rw [List.take_append_of_le_length (by omega)]
    exact h j (by omega)
theorem fits_cell {c acc : List Int} (h : fits c acc) (hl : acc.length = c.length) : cellL acc = c := by
  apply List.ext_getElem?
  intro j
  by_cases e : j < acc.length
  · rw [cellL_at acc j e, rd_get c j (by omega), h j e]
  · rw [List.getElem?_eq_none (by rw [cellL_len]; omega), List.getElem?_eq_none (by omega)]
theorem okC_not {l : List Int} {x : Int} (hx : x ∈ l) (h : inn x 0 100000 = false) : okC l = false := by
  rw [Bool.eq_false_iff]
  intro h2
  have := okC_bd h2 x hx
  rw [inn_f] at h
  omega
theorem Sums_list_l0 (c : List Int) (hb : ∀ x ∈ c, (Lit.int .i64 x).wf = true) (h1 : 1 ≤ c.length) (hn : c.length ≤ 32) (d : Nat) : ∀ (k i : Nat) (acc : List Int), acc.length = i → i + d = c.length → (∀ x ∈ acc, 0 ≤ x ∧ x ≤ 100000) → fits c acc → d + 100 < k → impl_Sums_list.l0 k acc c (c.length : Int) i c = some (packEnd (unp c d acc)) := by
  induction d with
  | zero =>
    intro k i acc hl hi hs hf hk
    obtain ⟨k, rfl⟩ : ∃ m, k = m + 1 := ⟨k - 1, by omega⟩
    have ha := sabs_bd hs
    have hok : okC acc = true := by
      simp only [okC, Bool.and_eq_true, inn_t]
      exact ⟨by omega, allIn_of hs⟩
    simp only [impl_Sums_list.l0]; rw [if_neg (by omega), cellsOf_f (by omega) (by omega) (by omega)]
    simp only [Option.bind_some, unp, packEnd, hok, if_true]
    rw [fits_cell hf (by omega), Equal_f (by omega) (by omega)]
    rfl
  | succ d ih =>
    intro k i acc hl hi hs hf hk
    obtain ⟨k, rfl⟩ : ∃ m, k = m + 1 := ⟨k - 1, by omega⟩
    have hlo := lo_le (i := i) (by omega)
    have hx := i64_bd (hb _ (rd_mem c i (by omega)))
    have hd := sabs_drop acc (lo i)
    have ha := sabs_bd hs
    have hd2 := sumL_bd (l := acc.drop (lo i)) (M := 100000) fun x hx => hs x (List.mem_of_mem_drop hx)
    have hdl : (acc.drop (lo i)).length ≤ 32 := by simp; omega
    have hrd : rd (acc ++ [wrap64 (rd c i - sumL (acc.drop (lo i)))]) (i : Int) = wrap64 (rd c i - sumL (acc.drop (lo i))) := by
      rw [rd_eq, List.getD_eq_getElem?_getD, List.getElem?_append_right (by omega), hl]; simp
    simp only [impl_Sums_list.l0]
    rw [if_pos (by omega), if_pos (by omega), if_pos (by omega), lo_eq (by omega), if_pos (by omega), if_pos (by omega), if_pos (by omega), Int.toNat_natCast, Int.toNat_natCast, List.take_of_length_le (by omega), impl_sumOf_f (by omega) (by simp; omega) (by simp; omega)]
    simp only [Option.bind_some]
    rw [if_pos (by omega), if_pos (by simp; omega), hrd, w64s (by omega)]
    simp only [within_f, Option.bind_some]
    obtain ⟨t, ht, _⟩ := unp_pre c d (acc ++ [rd c acc.length - sumL (acc.drop (lo acc.length))])
    by_cases h2 : inn (wrap64 (rd c i - sumL (acc.drop (lo i)))) 0 100000 = true
    · have h3 := inn_t.1 h2
      have h4 : wrap64 (rd c i - sumL (acc.drop (lo i))) = rd c i - sumL (acc.drop (lo i)) := by unfold wrap64 at h3 ⊢; omega
      rw [if_pos h2, h4]
      rw [h4] at h3
      subst hl
      rw [ih k (acc.length + 1) _ (by simp) (by omega) ?_ (fits_add hf (by omega)) (by omega)]
      · simp only [unp]
      · intro x hx'
        rcases List.mem_append.1 hx' with h5 | h5
        · exact hs x h5
        · rw [List.mem_singleton.1 h5]; exact h3
    · have h3 := inn_f.1 (Bool.eq_false_iff.2 h2)
      rw [if_neg h2]
      subst hl
      have h6 : okC (unp c (d + 1) acc) = false := by
        refine okC_not (x := rd c acc.length - sumL (acc.drop (lo acc.length))) ?_ ?_
        · simp only [unp]; rw [ht]; simp
        · rw [inn_f]; unfold wrap64 at h3; omega
      simp only [packEnd, h6, Bool.false_eq_true, if_false]
theorem Sums_list_f {k : Nat} {c : List Int} (hb : ∀ x ∈ c, (Lit.int .i64 x).wf = true) (hn : c.length ≤ 1048576) (hk : 1048700 < k) : impl_Sums_list.f k c = some (packRes c) := by
  unfold impl_Sums_list.f packRes
  simp only [within_f, Option.bind_some]
  by_cases h : inn (c.length : Int) 1 32 = true
  · have h2 := inn_t.1 h
    rw [if_pos h, if_pos h]
    exact Sums_list_l0 c hb (by omega) (by omega) c.length k 0 [] rfl (by omega) (by simp) (by intro j hj; simp at hj) (by omega)
  · rw [if_neg h, if_neg h]
/-- What is packed out of a list in bounds lies in bounds itself. -/
theorem unp_fits (c : List Int) : ∀ d acc, fits c acc → acc.length + d ≤ 32 → fits c (unp c d acc) := by
  intro d
  induction d with
  | zero => intro acc h _; exact h
  | succ d ih => intro acc h hl; exact ih _ (fits_add h (by omega)) (by simp; omega)
theorem packRes_all {c : List Int} : (if allIn c 0 3200000 then packRes c else ([], false)) = packRes c := by
  by_cases h : allIn c 0 3200000 = true
  · rw [if_pos h]
  · rw [if_neg h]
    unfold packRes
    by_cases h1 : inn (c.length : Int) 1 32 = true
    · have h2 := inn_t.1 h1
      rw [if_pos h1]
      unfold packEnd
      by_cases h3 : okC (unp c c.length []) = true
      · exfalso
        apply h
        have hf := unp_fits c c.length [] (by intro j hj; simp at hj) (by simp; omega)
        have hl := unp_len c c.length []
        refine (allFrom_iff c 0 3200000 c.length 0).2 fun j _ hj => ?_
        rw [hf j (by simp at hl; omega)]
        have := sumL_bd (l := ((unp c c.length []).take (j + 1)).drop (lo j)) (M := 100000) fun x hx => okC_bd h3 x (List.mem_of_mem_take (List.mem_of_mem_drop hx))
        have h6 : (((unp c c.length []).take (j + 1)).drop (lo j)).length ≤ 32 := by simp at hl ⊢; omega
        omega
      · rw [if_neg h3]
    · rw [if_neg h1]
theorem l5Back_p {k : Nat} {c : List Int} (hn : c.length ≤ 1048576) (hk : 1048700 < k) : spec_l5Back.f k c = some (packRes c) := by
  rw [l5Back_f hn hk, packRes_all]

theorem szSums_f {l : List Int} (hl : l.length ≤ 100000000000000) : laws_szSums.f l 1048576 = some (if 1048576 < (l.length : Int) then -1 else 1048576 - (l.length : Int)) := by
  unfold laws_szSums.f laws_szIntS.f
  rw [w64 (n := 1048576 - (l.length : Int)) (by omega) (by omega)]
  by_cases h : 1048576 < (l.length : Int)
  · rw [if_pos (by omega), if_pos h]; simp
  · rw [if_neg (by omega), if_neg h]
    simp only [Option.bind_some]
    rw [if_neg (by omega)]

theorem toSums_f {k : Nat} {l : List Int} (hn : l.length ≤ 35184372088832) (hk : l.length < k) : laws_toSums.f k l = some l := by
  unfold laws_toSums.f; rw [toIntS_f hn hk]; rfl

theorem eqSums_f {k : Nat} {l : List Int} (hn : l.length ≤ 100000000000000) (hk : l.length < k) : laws_eqSums.f k l l = some true := by
  unfold laws_eqSums.f; rw [eqIntS_f hn hk]; rfl

theorem pack_seg {c : List Int} (h : (packRes c).2 = true) (a b : Nat) : sabs (((packRes c).1.take a).drop b) ≤ 1000000000000000000 := seg_abs _ a b (okC_abs (packRes_ok h))
theorem pack_segl (c : List Int) (a b : Nat) : (((packRes c).1.take a).drop b).length ≤ 32 := by
  have := packRes_len c
  simp; omega
theorem appAt {x c : List Int} {i : Nat} {v : Int} (hx : x.length = i) (hv : c[i]? = some v) (hp : ∀ j, j < i → x[j]? = c[j]?) : ∀ j, j < i + 1 → (x ++ [v])[j]? = c[j]? := by
  intro j hj
  by_cases h : j = i
  · subst h
    rw [hv, List.getElem?_append_right (by omega), hx]; simp
  · rw [List.getElem?_append_left (by omega)]; exact hp j (by omega)
theorem l5Of_l0 (l : List Int) (hs : sabs l ≤ 1000000000000000000) (hn : l.length ≤ 32) (d : Nat) : ∀ (k : Nat) (x : List Int) (i : Nat), x.length = i → i + d = l.length → d + 40 < k → (∀ j, j < i → x[j]? = (cellL l)[j]?) →
    spec_l5Of.l0 k l (l.length : Int) i x = some (cellL l) := by
  induction d with
  | zero =>
    intro k x i hx hi hk hp
    obtain ⟨k, rfl⟩ : ∃ m, k = m + 1 := ⟨k - 1, by omega⟩
    simp only [spec_l5Of.l0]; rw [if_neg (by omega)]
    congr 1
    apply List.ext_getElem?
    intro j
    by_cases h : j < i
    · exact hp j h
    · rw [List.getElem?_eq_none (by omega), List.getElem?_eq_none (by rw [cellL_len]; omega)]
  | succ d ih =>
    intro k x i hx hi hk hp
    obtain ⟨k, rfl⟩ : ∃ m, k = m + 1 := ⟨k - 1, by omega⟩
    have hlo := lo_le (i := i) (by omega)
    simp only [spec_l5Of.l0]
    rw [lo_eq (by omega), w64s (by omega), if_pos (by omega), if_pos (by omega), if_pos (by omega), if_pos (by omega), Int.toNat_natCast, Int.toNat_natCast, spec_l1Sum_f (seg_abs l _ _ hs) (by simp; omega) (by simp; omega)]
    simp only [Option.bind_some]
    have hxl : x.length < 17592186044416 := Nat.lt_of_le_of_lt (Nat.le_of_eq hx) (Nat.lt_of_le_of_lt (Nat.le_trans (Nat.le_add_right i (d + 1)) (Nat.le_of_eq hi)) (Nat.lt_of_le_of_lt hn (by decide)))
    rw [if_pos hxl]
    refine ih k _ (i + 1) (by rw [List.length_append, hx]; rfl) (by omega) (by omega) ?_
    intro j hj
    exact appAt hx (cellL_at l i (by omega)) hp j hj
theorem l5Of_f {k : Nat} {l : List Int} (hs : sabs l ≤ 1000000000000000000) (hn : l.length ≤ 32) (hk : 80 < k) : spec_l5Of.f k l = some (cellL l) := by
  unfold spec_l5Of.f
  exact l5Of_l0 l hs hn l.length k _ 0 (by simp) (by omega) (by omega) (by intro j hj; omega)
def marks (a : Int) (n : Nat) : List Int := (List.range n).map fun i : Nat => a + (i : Int)
theorem marks_len (a : Int) (n : Nat) : (marks a n).length = n := by simp [marks]
theorem marks_rd (a : Int) (n i : Nat) (h : i < n) : rd (marks a n) (i : Int) = a + i := by
  simp [marks, rd, List.getD_eq_getElem?_getD, h]
theorem markIntS_l0 (n : Nat) (hn : n ≤ 100000000000000) (a : Int) (h0 : 0 ≤ a) (ha : a ≤ 100000000000000) (d : Nat) : ∀ (k : Nat) (x : List Int) (i : Nat), x.length = n → i + d = n → d < k → (∀ j, j < i → x[j]? = some (a + (j : Int))) →
    laws_markIntS.l0 k x (a + i) i = some (a + n, marks a n) := by
  induction d with
  | zero =>
    intro k x i hx hi hk hp
    obtain ⟨k, rfl⟩ := step_k hk
    simp only [laws_markIntS.l0]; rw [if_neg (by omega)]
    congr 1
    refine Prod.ext (by simp; omega) ?_
    apply List.ext_getElem?
    intro j
    by_cases h : j < i
    · show x[j]? = _
      rw [hp j h]; simp [marks, show j < n by omega]
    · rw [List.getElem?_eq_none (by simp; omega), List.getElem?_eq_none (by rw [marks_len]; omega)]
  | succ d ih =>
    intro k x i hx hi hk hp
    obtain ⟨k, rfl⟩ := step_k hk
    simp only [laws_markIntS.l0]
    rw [if_pos (by omega), if_pos (by omega), w64s (by omega), w64 (n := a + (i : Int) + 1) (by omega) (by omega), show a + (i : Int) + 1 = a + ((i + 1 : Nat) : Int) by omega]
    refine ih k _ (i + 1) (by simpa using hx) (by omega) (by omega) ?_
    intro j hj
    rw [Int.toNat_natCast, List.getElem?_set]
    by_cases h : i = j
    · subst h
      rw [if_pos rfl, if_pos (by omega)]
    · rw [if_neg h]; exact hp j (by omega)
theorem markIntS_f {k : Nat} {l : List Int} {a : Int} (hn : l.length ≤ 100000000000000) (h0 : 0 ≤ a) (ha : a ≤ 100000000000000) (hk : l.length < k) : laws_markIntS.f k l a = some (a + l.length, marks a l.length) := by
  unfold laws_markIntS.f
  have := markIntS_l0 l.length hn a h0 ha l.length k l 0 rfl (by omega) hk (by intro j hj; omega)
  rw [show a + ((0 : Nat) : Int) = a by omega] at this
  exact this
theorem heldIntS_l0 (n : Nat) (hn : n ≤ 100000000000000) (a : Int) (h0 : 0 ≤ a) (ha : a ≤ 100000000000000) (d : Nat) : ∀ (k i : Nat), i + d = n → d < k → laws_heldIntS.l0 k (marks a n) (a + i) i = some (a + n) := by
  induction d with
  | zero =>
    intro k i hi hk
    obtain ⟨k, rfl⟩ := step_k hk
    simp only [laws_heldIntS.l0]; rw [if_neg (by rw [marks_len]; omega)]
    congr 1; omega
  | succ d ih =>
    intro k i hi hk
    obtain ⟨k, rfl⟩ := step_k hk
    simp only [laws_heldIntS.l0]
    rw [if_pos (by rw [marks_len]; omega), if_pos (by omega), if_pos (marks_rd a n i (by omega)), w64s (by omega), w64 (n := a + (i : Int) + 1) (by omega) (by omega), show a + (i : Int) + 1 = a + ((i + 1 : Nat) : Int) by omega]
    exact ih k (i + 1) (by omega) (by omega)
theorem heldIntS_f {k n : Nat} {a : Int} (hn : n ≤ 100000000000000) (h0 : 0 ≤ a) (ha : a ≤ 100000000000000) (hk : n < k) : laws_heldIntS.f k (marks a n) a = some (a + n) := by
  unfold laws_heldIntS.f
  have := heldIntS_l0 n hn a h0 ha n k 0 (by omega) hk
  rw [show a + ((0 : Nat) : Int) = a by omega] at this
  exact this
theorem markSums_f {k : Nat} {l : List Int} {a : Int} (hn : l.length ≤ 100000000000000) (h0 : 0 ≤ a) (ha : a ≤ 100000000000000) (hk : l.length < k) : laws_markSums.f k l a = some (a + l.length, marks a l.length) := by
  unfold laws_markSums.f; rw [markIntS_f hn h0 ha hk]; rfl
theorem heldSums_f {k n : Nat} {a : Int} (hn : n ≤ 100000000000000) (h0 : 0 ≤ a) (ha : a ≤ 100000000000000) (hk : n < k) : laws_heldSums.f k (marks a n) a = some (a + n) := by
  unfold laws_heldSums.f; rw [heldIntS_f hn h0 ha hk]
  simp only [Option.bind_some]
  rw [if_neg (by omega)]
def addRes (c : List Int) (a b : Int) : List Int × Bool := if (packRes c).2 && decide (0 ≤ a ∧ a < ((packRes c).1.length : Int) ∧ 0 ≤ rd (packRes c).1 a + b ∧ rd (packRes c).1 a + b ≤ 100000) then (cellL ((packRes c).1.set a.toNat (rd (packRes c).1 a + b)), true) else ([], false)
theorem addRes_len (c : List Int) (a b : Int) : (addRes c a b).1.length ≤ 32 := by
  have := packRes_len c
  unfold addRes
  split
  · show (cellL _).length ≤ 32
    rw [cellL_len, List.length_set]; omega
  · simp
theorem set_abs {x : List Int} (h : ∀ v ∈ x, 0 ≤ v ∧ v ≤ 100000) (hl : x.length ≤ 32) {i : Nat} {w : Int} (hw : 0 ≤ w ∧ w ≤ 100000) : sabs (x.set i w) ≤ 1000000000000000000 := by
  have := sabs_bd (l := x.set i w) (M := 100000) fun v hv => by
    rcases List.mem_or_eq_of_mem_set hv with h1 | h1
    · exact h v h1
    · rw [h1]; exact hw
  rw [List.length_set] at this
  omega
theorem spec_AddAt_f {k : Nat} {l : List Int} {a b : Int} (hn : l.length ≤ 1048576) (hk : 1048700 < k) : spec_AddAt.f k l a b = some (addRes l a b) := by
  have hl := packRes_len l
  unfold spec_AddAt.f addRes
  rw [l5Back_p hn hk]
  simp only [Option.bind_some, l1In_f]
  by_cases h : (packRes l).2 = true
  · have hok := okC_bd (packRes_ok h)
    rw [if_pos h, h, Bool.true_and]
    by_cases h1 : a < 0
    · rw [if_pos h1, if_neg (by simp; omega)]
    · rw [if_neg h1]
      by_cases h2 : a ≥ ((packRes l).1.length : Int)
      · rw [if_pos h2, if_neg (by simp; omega)]
      · rw [if_neg h2]
        have hx := hok _ (rd_mem (packRes l).1 a.toNat (by omega))
        rw [show ((a.toNat : Nat) : Int) = a by omega] at hx
        by_cases h3 : inn b (-100000) 100000 = true
        · have h4 := inn_t.1 h3
          rw [if_pos h3, if_pos (by omega), if_pos (by omega), w64 (n := rd (packRes l).1 a + b) (by omega) (by omega)]
          by_cases h5 : inn (rd (packRes l).1 a + b) 0 100000 = true
          · have h6 := inn_t.1 h5
            rw [if_pos h5, l5Of_f (set_abs hok hl h6) (by rw [List.length_set]; omega) (by omega), if_pos (by simp; omega)]; rfl
          · have h6 := inn_f.1 (Bool.eq_false_iff.2 h5)
            rw [if_neg h5, if_neg (by simp; omega)]
        · have h4 := inn_f.1 (Bool.eq_false_iff.2 h3)
          rw [if_neg h3, if_neg (by simp; omega)]
  · rw [if_neg h]; simp [h]
theorem impl_AddAt_f {k : Nat} {l : List Int} {a b : Int} (hb : ∀ x ∈ l, (Lit.int .i64 x).wf = true) (hn : l.length ≤ 1048576) (hk : 1048700 < k) : impl_AddAt.f k l a b = some (addRes l a b) := by
  have hl := packRes_len l
  unfold impl_AddAt.f addRes
  rw [Sums_list_f hb hn hk]
  simp only [Option.bind_some, within_f]
  by_cases h : (packRes l).2 = true
  · have hok := okC_bd (packRes_ok h)
    rw [if_pos h, h, Bool.true_and, w64 (n := ((packRes l).1.length : Int) - 1) (by omega) (by omega)]
    by_cases h1 : inn a 0 (((packRes l).1.length : Int) - 1) = true
    · have h2 := inn_t.1 h1
      have hx := hok _ (rd_mem (packRes l).1 a.toNat (by omega))
      rw [show ((a.toNat : Nat) : Int) = a by omega] at hx
      rw [if_pos h1, if_pos (by omega), if_pos (by omega), w64 (n := -rd (packRes l).1 a) (by omega) (by omega), w64 (n := 100000 - rd (packRes l).1 a) (by omega) (by omega)]
      by_cases h3 : inn b (-rd (packRes l).1 a) (100000 - rd (packRes l).1 a) = true
      · have h4 := inn_t.1 h3
        rw [if_pos h3, w64 (n := rd (packRes l).1 a + b) (by omega) (by omega), cellsOf_f (set_abs hok hl (by omega)) (by rw [List.length_set]; omega) (by omega), if_pos (by simp; omega)]; rfl
      · have h4 := inn_f.1 (Bool.eq_false_iff.2 h3)
        rw [if_neg h3, if_neg (by simp; omega)]
    · have h2 := inn_f.1 (Bool.eq_false_iff.2 h1)
      rw [if_neg h1, if_neg (by simp; omega)]
  · rw [if_neg h]; simp [h]
theorem FnExactAddAt : ∀ (l0 : List (Int)) (a1 : Int) (a2 : Int), l0.length * 8 ≤ 140737488351232 → (∀ v ∈ l0, (Lit.int .i64 v).wf = true) → (Lit.int .i64 a1).wf = true → (Lit.int .i64 a2).wf = true → ∃ k, laws_FnExactAddAt.f k l0 a1 a2 = some true := by
  intro l a b hl hb
  intros
  suffices h : ∀ k, 1248990 ≤ k → laws_FnExactAddAt.f k l a b = some true from ⟨_, h _ (Nat.le_refl _)⟩
  intro k hk
  unfold laws_FnExactAddAt.f
  rw [szSums_f (by omega)]
  simp only [Option.bind_some]
  by_cases h : 1048576 < (l.length : Int)
  · rw [if_pos h, if_pos (by omega)]
  · rw [if_neg h, if_neg (by omega)]
    obtain ⟨m, hm1, hm2⟩ : ∃ m, k = m + 3 ∧ 1248980 ≤ m := ⟨k - 3, by omega, by omega⟩
    rw [hm1]
    have hl2 := addRes_len l a b
    have hneg : (1 + ((addRes l a b).1.length : Int) < 0) = False := eq_false (by omega)
    have es := fun k => @spec_AddAt_f k l a b (by omega)
    have ei := fun k => @impl_AddAt_f k l a b hb (by omega)
    simp (disch := omega) only [toSums_f, es, ei, eqSums_f, markSums_f, Option.bind_some, bne_self_eq_false, laws_FnExactAddAt.j0, Bool.false_eq_true, if_false, if_true]
    rw [if_neg (by omega)]
    simp (disch := omega) only [toSums_f, ei, eqSums_f, markSums_f, heldSums_f, Option.bind_some, bne_self_eq_false, laws_FnExactAddAt.j1, laws_FnExactAddAt.j2, Bool.false_eq_true, if_false, if_true, hneg]

end Go.Proofs.Ytdjdkabblfccjaa.Pure
