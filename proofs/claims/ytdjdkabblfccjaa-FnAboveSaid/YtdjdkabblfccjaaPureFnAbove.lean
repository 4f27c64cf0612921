/- What the program tells of sums and of the first place above a number is what the reference tells and what the statement asks, at every two lists of bytes. No condition. -/
import Derived.Test.YtdjdkabblfccjaaPFnAbovex0
import Derived.Test.YtdjdkabblfccjaaPFnAbovex1
import Derived.Test.YtdjdkabblfccjaaPFnAbovex2
import Derived.Test.YtdjdkabblfccjaaPFnAbovex3
import Derived.Test.YtdjdkabblfccjaaPFnAbovex4
import Derived.Test.YtdjdkabblfccjaaPFnAbovex5
import Derived.Test.YtdjdkabblfccjaaPFnAbovex6
import Derived.Test.YtdjdkabblfccjaaPFnAbovex7
namespace Go.Proofs.Ytdjdkabblfccjaa.Pure
open Go.RowKit Go.Proofs.Ytdjdkabblfccjaa.PFnAbove Go.Proofs.YtdjdkabblfccjaaW.PrintWords Go.Proofs.YtdjdkabblfccjaaW.PrintLast Go.Proofs.YtdjdkabblfccjaaW.PrintMore
set_option linter.unusedVariables false
set_option linter.unusedSimpArgs false
theorem w64 {n : Int} (h0 : -9223372036854775808 ≤ n) (h1 : n ≤ 9223372036854775807) : wrap64 n = n := by unfold wrap64; omega
theorem w64s {i : Nat} (h1 : i ≤ 1000000000000000) : wrap64 ((i : Int) + 1) = ((i + 1 : Nat) : Int) := by rw [w64 (by omega) (by omega)]; omega
theorem rd_eq (l : List Int) (i : Nat) : rd l (i : Int) = l.getD i 0 := by simp [rd]
theorem rd_get (l : List Int) (i : Nat) (h : i < l.length) : l[i]? = some (rd l (i : Int)) := by
  simp [rd, List.getD_eq_getElem?_getD, List.getElem?_eq_getElem h]
theorem rd_mem (l : List Int) (i : Nat) (h : i < l.length) : rd l (i : Int) ∈ l := List.mem_of_getElem? (rd_get l i h)
theorem step_k {k d : Nat} (h : d < k) : ∃ m, k = m + 1 := ⟨k - 1, by omega⟩
def inn (a b c : Int) : Bool := decide (b ≤ a ∧ a ≤ c)
theorem inn_t {a b c : Int} : inn a b c = true ↔ b ≤ a ∧ a ≤ c := by simp [inn]
theorem inn_f {a b c : Int} : inn a b c = false ↔ a < b ∨ c < a := by simp [inn]; omega
theorem l1In_f (a b c : Int) : spec_l1In.f a b c = some (inn a b c) := by
  unfold spec_l1In.f inn
  by_cases h : a ≥ b
  · rw [if_pos h]; simp [show b ≤ a from h]
  · rw [if_neg h]; simp [show ¬ b ≤ a from h]
theorem within_f (a b c : Int) : impl_within.f a b c = some (inn a b c) := by
  unfold impl_within.f inn
  by_cases h : a ≥ b
  · rw [if_pos h]; simp [show b ≤ a from h]
  · rw [if_neg h]; simp [show ¬ b ≤ a from h]
theorem i64_bd {v : Int} (h : (Lit.int .i64 v).wf = true) : -9223372036854775808 ≤ v ∧ v ≤ 9223372036854775807 := by
  simp [Lit.wf, IntKind.min, IntKind.max, IntKind.signed, IntKind.bits] at h
  exact h
def allFrom (l : List Int) (lo hi : Int) : Nat → Nat → Bool
  | _, 0 => true
  | i, d + 1 => inn (rd l i) lo hi && allFrom l lo hi (i + 1) d
def allIn (l : List Int) (lo hi : Int) : Bool := allFrom l lo hi 0 l.length
theorem allFrom_iff (l : List Int) (lo hi : Int) : ∀ d i, allFrom l lo hi i d = true ↔ ∀ j : Nat, i ≤ j → j < i + d → lo ≤ rd l j ∧ rd l j ≤ hi := by
  intro d
  induction d with
  | zero => intro i; simp only [allFrom, true_iff]; intro j h1 h2; omega
  | succ d ih =>
    intro i
    simp only [allFrom, Bool.and_eq_true, ih, inn_t]
    constructor
    · rintro ⟨h1, h3⟩ j hj hj2
      by_cases e : j = i
      · subst e; exact h1
      · exact h3 j (by omega) (by omega)
    · intro h
      exact ⟨h i (Nat.le_refl _) (by omega), fun j hj hj2 => h j (by omega) (by omega)⟩
theorem allIn_bd {l : List Int} {lo hi : Int} (h : allIn l lo hi = true) : ∀ x ∈ l, lo ≤ x ∧ x ≤ hi := by
  intro x hx
  obtain ⟨i, hi', rfl⟩ := List.mem_iff_getElem.1 hx
  have := (allFrom_iff l lo hi l.length 0).1 h i (by omega) (by omega)
  rw [rd_eq, List.getD_eq_getElem?_getD, List.getElem?_eq_getElem hi'] at this
  exact this
theorem allIn_of {l : List Int} {lo hi : Int} (h : ∀ x ∈ l, lo ≤ x ∧ x ≤ hi) : allIn l lo hi = true := (allFrom_iff l lo hi l.length 0).2 fun j _ hj => h _ (rd_mem l j (by omega))
theorem l1All_l0 (l : List Int) (lo hi : Int) (hn : l.length ≤ 100000000000000) (d : Nat) : ∀ (k i : Nat), i + d = l.length → d < k → spec_l1All.l0 k lo hi l (l.length : Int) i = some (allFrom l lo hi i d) := by
  induction d with
  | zero =>
    intro k i hi' hk
    obtain ⟨k, rfl⟩ := step_k hk
    simp only [spec_l1All.l0]; rw [if_neg (by omega)]; rfl
  | succ d ih =>
    intro k i hi' hk
    obtain ⟨k, rfl⟩ := step_k hk
    simp only [spec_l1All.l0, l1In_f, Option.bind_some]
    rw [if_pos (by omega), if_pos (by omega), if_pos (by omega), w64s (by omega), ih k (i + 1) (by omega) (by omega)]
    simp only [allFrom]
    by_cases h1 : inn (rd l i) lo hi = true
    · rw [if_pos h1, h1]; simp
    · rw [if_neg h1]; simp [h1]
theorem l1All_f {k : Nat} {l : List Int} {lo hi : Int} (hn : l.length ≤ 100000000000000) (hk : l.length < k) : spec_l1All.f k l lo hi = some (allIn l lo hi) := by
  unfold spec_l1All.f
  exact l1All_l0 l lo hi hn l.length k 0 (by omega) hk
def sumL : List Int → Int
  | [] => 0
  | x :: l => x + sumL l
theorem sumL_append (a b : List Int) : sumL (a ++ b) = sumL a + sumL b := by
  induction a with
  | nil => simp [sumL]
  | cons x a ih => simp only [List.cons_append, sumL, ih]; omega
theorem sumL_bd {l : List Int} {M : Int} (h : ∀ x ∈ l, 0 ≤ x ∧ x ≤ M) : 0 ≤ sumL l ∧ sumL l ≤ M * l.length := by
  induction l with
  | nil => simp [sumL]
  | cons x l ih =>
    have h1 := h x (by simp)
    have h2 := ih fun y hy => h y (by simp [hy])
    simp only [sumL, List.length_cons]
    have : M * ((l.length + 1 : Nat) : Int) = M * l.length + M := by rw [Int.natCast_add, Int.mul_add]; simp
    omega
theorem drop_rd (l : List Int) (i : Nat) (h : i < l.length) : l.drop i = rd l i :: l.drop (i + 1) := by
  rw [List.drop_eq_getElem_cons h]
  congr 1
  rw [rd_eq, List.getD_eq_getElem?_getD, List.getElem?_eq_getElem h]; rfl
def sabs : List Int → Int
  | [] => 0
  | x :: l => (if x < 0 then -x else x) + sabs l
theorem sabs_nn (l : List Int) : 0 ≤ sabs l := by
  induction l with
  | nil => simp [sabs]
  | cons x l ih => simp only [sabs]; split <;> omega
theorem sabs_append (a b : List Int) : sabs (a ++ b) = sabs a + sabs b := by
  induction a with
  | nil => simp [sabs]
  | cons x a ih => simp only [List.cons_append, sabs, ih]; omega
theorem sabs_drop (l : List Int) (i : Nat) : sabs (l.drop i) ≤ sabs l := by
  have h := sabs_append (l.take i) (l.drop i)
  rw [List.take_append_drop] at h
  have := sabs_nn (l.take i)
  omega
theorem sabs_take (l : List Int) (i : Nat) : sabs (l.take i) ≤ sabs l := by
  have h := sabs_append (l.take i) (l.drop i)
  rw [List.take_append_drop] at h
  have := sabs_nn (l.drop i)
  omega
theorem sumL_abs (l : List Int) : -sabs l ≤ sumL l ∧ sumL l ≤ sabs l := by
  induction l with
  | nil => simp [sabs, sumL]
  | cons x l ih => simp only [sabs, sumL]; split <;> omega
theorem sabs_bd {l : List Int} {M : Int} (h : ∀ x ∈ l, 0 ≤ x ∧ x ≤ M) : sabs l ≤ M * l.length := by
  induction l with
  | nil => simp [sabs]
  | cons x l ih =>
    have h1 := h x (by simp)
    have h2 := ih fun y hy => h y (by simp [hy])
    simp only [sabs, List.length_cons]
    have : M * ((l.length + 1 : Nat) : Int) = M * l.length + M := by rw [Int.natCast_add, Int.mul_add]; simp
    rw [if_neg (by omega)]
    omega
theorem spec_l1Sum_l0 (l : List Int) (hn : l.length ≤ 1000000) (d : Nat) : ∀ (k i : Nat) (acc : Int), sabs (l.drop i) - 1000000000000000000 ≤ acc → acc ≤ 1000000000000000000 - sabs (l.drop i) → i + d = l.length → d < k → spec_l1Sum.l0 k acc l (l.length : Int) i = some (acc + sumL (l.drop i)) := by
  induction d with
  | zero =>
    intro k i acc _ _ hi' hk
    obtain ⟨k, rfl⟩ := step_k hk
    simp only [spec_l1Sum.l0]; rw [if_neg (by omega), List.drop_eq_nil_of_le (by omega)]; simp [sumL]
  | succ d ih =>
    intro k i acc h0 h1 hi' hk
    obtain ⟨k, rfl⟩ := step_k hk
    rw [drop_rd l i (by omega)] at h0 h1
    simp only [sabs] at h0 h1
    have hb := sabs_nn (l.drop (i + 1))
    have hc : -(if rd l i < 0 then -rd l i else rd l i) ≤ rd l i ∧ rd l i ≤ (if rd l i < 0 then -rd l i else rd l i) := by split <;> omega
    simp only [spec_l1Sum.l0]
    rw [if_pos (by omega), if_pos (by omega), if_pos (by omega), w64s (by omega), w64 (n := acc + rd l i) (by omega) (by omega), ih k (i + 1) _ (by omega) (by omega) (by omega) (by omega), drop_rd l i (by omega)]
    simp only [sumL]
    congr 1; omega
theorem spec_l1Sum_f {k : Nat} {l : List Int} (h : sabs l ≤ 1000000000000000000) (hn : l.length ≤ 1000000) (hk : l.length < k) : spec_l1Sum.f k l = some (sumL l) := by
  unfold spec_l1Sum.f
  have := spec_l1Sum_l0 l hn l.length k 0 0 (by simp only [List.drop_zero]; omega) (by simp only [List.drop_zero]; omega) (by omega) hk
  simpa using this
theorem impl_sumOf_l0 (l : List Int) (hn : l.length ≤ 1000000) (d : Nat) : ∀ (k i : Nat) (acc : Int), sabs (l.drop i) - 1000000000000000000 ≤ acc → acc ≤ 1000000000000000000 - sabs (l.drop i) → i + d = l.length → d < k → impl_sumOf.l0 k acc l (l.length : Int) i = some (acc + sumL (l.drop i)) := by
  induction d with
  | zero =>
    intro k i acc _ _ hi' hk
    obtain ⟨k, rfl⟩ := step_k hk
    simp only [impl_sumOf.l0]; rw [if_neg (by omega), List.drop_eq_nil_of_le (by omega)]; simp [sumL]
  | succ d ih =>
    intro k i acc h0 h1 hi' hk
    obtain ⟨k, rfl⟩ := step_k hk
    rw [drop_rd l i (by omega)] at h0 h1
    simp only [sabs] at h0 h1
    have hb := sabs_nn (l.drop (i + 1))
    have hc : -(if rd l i < 0 then -rd l i else rd l i) ≤ rd l i ∧ rd l i ≤ (if rd l i < 0 then -rd l i else rd l i) := by split <;> omega
    simp only [impl_sumOf.l0]
    rw [if_pos (by omega), if_pos (by omega), if_pos (by omega), w64s (by omega), w64 (n := acc + rd l i) (by omega) (by omega), ih k (i + 1) _ (by omega) (by omega) (by omega) (by omega), drop_rd l i (by omega)]
    simp only [sumL]
    congr 1; omega
theorem impl_sumOf_f {k : Nat} {l : List Int} (h : sabs l ≤ 1000000000000000000) (hn : l.length ≤ 1000000) (hk : l.length < k) : impl_sumOf.f k l = some (sumL l) := by
  unfold impl_sumOf.f
  have := impl_sumOf_l0 l hn l.length k 0 0 (by simp only [List.drop_zero]; omega) (by simp only [List.drop_zero]; omega) (by omega) hk
  simpa using this
def loE (i : Nat) : Int := wrap64 ((wrap64 ((i : Int) + 1)) - (Go.bits .and .i64 (wrap64 ((i : Int) + 1)) (wrap64 (-(wrap64 ((i : Int) + 1))))))
def lo (i : Nat) : Nat := (loE i).toNat
theorem lo_all : ∀ i : Fin 32, 0 ≤ loE i.1 ∧ loE i.1 ≤ (i.1 : Int) := by decide +kernel
theorem lo_eq {i : Nat} (h : i < 32) : wrap64 ((wrap64 ((i : Int) + 1)) - (Go.bits .and .i64 (wrap64 ((i : Int) + 1)) (wrap64 (-(wrap64 ((i : Int) + 1)))))) = (lo i : Int) := by
  have := lo_all ⟨i, h⟩
  show loE i = _
  unfold lo
  simp only at this
  omega
theorem lo_le {i : Nat} (h : i < 32) : lo i ≤ i := by
  have := lo_all ⟨i, h⟩
  unfold lo
  simp only at this
  omega
attribute [irreducible] lo
def cellL (x : List Int) : List Int := (List.range x.length).map fun i => sumL ((x.take (i + 1)).drop (lo i))
theorem cellL_len (x : List Int) : (cellL x).length = x.length := by simp [cellL]
theorem cellL_at (x : List Int) (i : Nat) (h : i < x.length) : (cellL x)[i]? = some (sumL ((x.take (i + 1)).drop (lo i))) := by
  simp [cellL, h]
theorem seg_abs (x : List Int) (a b : Nat) (h : sabs x ≤ 1000000000000000000) : sabs ((x.take a).drop b) ≤ 1000000000000000000 := by
  have := sabs_drop (x.take a) b
  have := sabs_take x a
  omega
theorem cellsOf_l0 (l : List Int) (hs : sabs l ≤ 1000000000000000000) (hn : l.length ≤ 32) (d : Nat) : ∀ (k : Nat) (x : List Int) (i : Nat), x.length = l.length → i + d = l.length → d + 40 < k → (∀ j, j < i → x[j]? = (cellL l)[j]?) →
    impl_cellsOf.l0 k l x (l.length : Int) i = some (cellL l) := by
  induction d with
  | zero =>
    intro k x i hx hi hk hp
    obtain ⟨k, rfl⟩ : ∃ m, k = m + 1 := ⟨k - 1, by omega⟩
    simp only [impl_cellsOf.l0]; rw [if_neg (by omega)]
    congr 1
    apply List.ext_getElem?
    intro j
    by_cases h : j < i
    · exact hp j h
    · rw [List.getElem?_eq_none (by omega), List.getElem?_eq_none (by rw [cellL_len]; omega)]
  | succ d ih =>
    intro k x i hx hi hk hp
    obtain ⟨k, rfl⟩ : ∃ m, k = m + 1 := ⟨k - 1, by omega⟩
    have hlo := lo_le (i := i) (by omega)
    simp only [impl_cellsOf.l0]
    rw [lo_eq (by omega), w64s (by omega), if_pos (by omega), if_pos (by omega), if_pos (by omega), if_pos (by omega), Int.toNat_natCast, Int.toNat_natCast, impl_sumOf_f (seg_abs l _ _ hs) (by simp; omega) (by simp; omega)]
    simp only [Option.bind_some]
    rw [if_pos (by omega), if_pos (by omega)]
    refine ih k _ (i + 1) (by simpa using hx) (by omega) (by omega) ?_
    intro j hj
    rw [Int.toNat_natCast, List.getElem?_set]
    by_cases h : i = j
    · subst h
      rw [if_pos rfl, if_pos (by omega), cellL_at l i (by omega)]
    · rw [if_neg h]; exact hp j (by omega)
theorem cellsOf_f {k : Nat} {l : List Int} (hs : sabs l ≤ 1000000000000000000) (hn : l.length ≤ 32) (hk : 80 < k) : impl_cellsOf.f k l = some (cellL l) := by
  unfold impl_cellsOf.f
  rw [if_pos (by omega), if_pos (by omega)]
  exact cellsOf_l0 l hs hn l.length k _ 0 (by simp) (by omega) (by omega) (by intro j hj; omega)
theorem appAt {x c : List Int} {i : Nat} {v : Int} (hx : x.length = i) (hv : c[i]? = some v) (hp : ∀ j, j < i → x[j]? = c[j]?) : ∀ j, j < i + 1 → (x ++ [v])[j]? = c[j]? := by
  intro j hj
  by_cases h : j = i
  · subst h
    rw [hv, List.getElem?_append_right (by omega), hx]; simp
  · rw [List.getElem?_append_left (by omega)]; exact hp j (by omega)
theorem l5Of_l0 (l : List Int) (hs : sabs l ≤ 1000000000000000000) (hn : l.length ≤ 32) (d : Nat) : ∀ (k : Nat) (x : List Int) (i : Nat), x.length = i → i + d = l.length → d + 40 < k → (∀ j, j < i → x[j]? = (cellL l)[j]?) →
    spec_l5Of.l0 k l (l.length : Int) i x = some (cellL l) := by
  induction d with
  | zero =>
    intro k x i hx hi hk hp
    obtain ⟨k, rfl⟩ : ∃ m, k = m + 1 := ⟨k - 1, by omega⟩
    simp only [spec_l5Of.l0]; rw [if_neg (by omega)]
    congr 1
    apply List.ext_getElem?
    intro j
    by_cases h : j < i
    · exact hp j h
    · rw [List.getElem?_eq_none (by omega), List.getElem?_eq_none (by rw [cellL_len]; omega)]
  | succ d ih =>
    intro k x i hx hi hk hp
    obtain ⟨k, rfl⟩ : ∃ m, k = m + 1 := ⟨k - 1, by omega⟩
    have hlo := lo_le (i := i) (by omega)
    simp only [spec_l5Of.l0]
    rw [lo_eq (by omega), w64s (by omega), if_pos (by omega), if_pos (by omega), if_pos (by omega), if_pos (by omega), Int.toNat_natCast, Int.toNat_natCast, spec_l1Sum_f (seg_abs l _ _ hs) (by simp; omega) (by simp; omega)]
    simp only [Option.bind_some]
    have hxl : x.length < 17592186044416 := Nat.lt_of_le_of_lt (Nat.le_of_eq hx) (Nat.lt_of_le_of_lt (Nat.le_trans (Nat.le_add_right i (d + 1)) (Nat.le_of_eq hi)) (Nat.lt_of_le_of_lt hn (by decide)))
    rw [if_pos hxl]
    refine ih k _ (i + 1) (by rw [List.length_append, hx]; rfl) (by omega) (by omega) ?_
    intro j hj
    exact appAt hx (cellL_at l i (by omega)) hp j hj
theorem l5Of_f {k : Nat} {l : List Int} (hs : sabs l ≤ 1000000000000000000) (hn : l.length ≤ 32) (hk : 80 < k) : spec_l5Of.f k l = some (cellL l) := by
  unfold spec_l5Of.f
  exact l5Of_l0 l hs hn l.length k _ 0 (by simp) (by omega) (by omega) (by intro j hj; omega)
def okC (l : List Int) : Bool := inn (l.length : Int) 1 32 && allIn l 0 100000
theorem okC_len {l : List Int} (h : okC l = true) : 1 ≤ l.length ∧ l.length ≤ 32 := by
  simp only [okC, Bool.and_eq_true, inn_t] at h; omega
theorem okC_bd {l : List Int} (h : okC l = true) : ∀ x ∈ l, 0 ≤ x ∧ x ≤ 100000 := by
  simp only [okC, Bool.and_eq_true] at h; exact allIn_bd h.2
theorem okC_abs {l : List Int} (h : okC l = true) : sabs l ≤ 1000000000000000000 := by
  have h1 := sabs_bd (okC_bd h)
  have h2 := okC_len h
  omega
theorem l5List_f {k : Nat} {l : List Int} (hn : l.length ≤ 100000000000000) (hk : l.length < k) : spec_l5List.f k l = some (okC l) := by
  unfold spec_l5List.f okC
  simp (disch := assumption) only [l1In_f, l1All_f, Option.bind_some]
  by_cases h : inn (l.length : Int) 1 32 = true
  · rw [if_pos h, h, Bool.true_and]
  · rw [if_neg h]; simp [h]
def unp (c : List Int) : Nat → List Int → List Int
  | 0, acc => acc
  | d + 1, acc => unp c d (acc ++ [rd c acc.length - sumL (acc.drop (lo acc.length))])
theorem unp_pre (c : List Int) : ∀ d acc, ∃ t, unp c d acc = acc ++ t ∧ t.length = d := by
  intro d
  induction d with
  | zero => intro acc; exact ⟨[], by simp [unp]⟩
  | succ d ih =>
    intro acc
    obtain ⟨t, h1, h2⟩ := ih (acc ++ [rd c acc.length - sumL (acc.drop (lo acc.length))])
    exact ⟨[rd c acc.length - sumL (acc.drop (lo acc.length))] ++ t, by simp only [unp]; rw [h1, List.append_assoc], by simp; omega⟩
theorem unp_len (c : List Int) (d : Nat) (acc : List Int) : (unp c d acc).length = acc.length + d := by
  obtain ⟨t, h1, h2⟩ := unp_pre c d acc
  rw [h1]; simp; omega
def packEnd (x : List Int) : List Int × Bool := if okC x then (x, true) else ([], false)
def packRes (c : List Int) : List Int × Bool := if inn (c.length : Int) 1 32 then packEnd (unp c c.length []) else ([], false)
theorem packRes_ok {c : List Int} (h : (packRes c).2 = true) : okC (packRes c).1 = true := by
  unfold packRes packEnd at *
  split
  · rename_i h1
    rw [if_pos h1] at h
    split
    · rename_i h2; exact h2
    · rename_i h2; rw [if_neg h2] at h; simp at h
  · rename_i h1; rw [if_neg h1] at h; simp at h
theorem packRes_len (c : List Int) : (packRes c).1.length ≤ 32 := by
  by_cases h : (packRes c).2 = true
  · exact (okC_len (packRes_ok h)).2
  · unfold packRes packEnd at *
    split
    · rename_i h1
      rw [if_pos h1] at h
      split
      · rename_i h2; rw [if_pos h2] at h; simp at h
      · simp
    · simp
def bnd : Nat → Int
  | 0 => 3200000
  | i + 1 => 2 * bnd i
theorem bnd_z : bnd 0 = 3200000 := rfl
theorem bnd_s (i : Nat) : bnd (i + 1) = 2 * bnd i := rfl
theorem bnd_all : ∀ i : Fin 33, bnd i.1 ≤ 100000000000000000 := by decide +kernel
attribute [irreducible] bnd
theorem absStep {A B r s : Int} (h0 : 0 ≤ A) (h1 : A + 3200000 ≤ B) (h2 : 0 ≤ r ∧ r ≤ 3200000) (h3 : -A ≤ s) (h4 : s ≤ A) : A + sabs [r - s] + 3200000 ≤ 2 * B := by
  simp only [sabs]
  split <;> omega
theorem l5Back_l0 (c : List Int) (hb : ∀ x ∈ c, 0 ≤ x ∧ x ≤ 3200000) (hn : c.length ≤ 32) (d : Nat) : ∀ (k i : Nat) (acc : List Int), acc.length = i → i + d = c.length → sabs acc + 3200000 ≤ bnd i → d + 50 < k → spec_l5Back.l0 k acc c (c.length : Int) i = some (packEnd (unp c d acc)) := by
  induction d with
  | zero =>
    intro k i acc hl hi hs hk
    obtain ⟨k, rfl⟩ : ∃ m, k = m + 1 := ⟨k - 1, by omega⟩
    simp only [spec_l5Back.l0]; rw [if_neg (by omega), l5List_f (by omega) (by omega)]
    simp only [Option.bind_some, unp, packEnd]
    by_cases h : okC acc = true <;> simp [h]
  | succ d ih =>
    intro k i acc hl hi hs hk
    obtain ⟨k, rfl⟩ : ∃ m, k = m + 1 := ⟨k - 1, by omega⟩
    have hlo := lo_le (i := i) (by omega)
    have hB := bnd_all ⟨i, by omega⟩
    simp only at hB
    have hx := hb _ (rd_mem c i (by omega))
    have hd := sabs_drop acc (lo i)
    have hd2 := sumL_abs (acc.drop (lo i))
    have hA : sabs acc ≤ 200000000000000000 := by omega
    have hv : -9223372036854775808 ≤ rd c i - sumL (acc.drop (lo i)) ∧ rd c i - sumL (acc.drop (lo i)) ≤ 9223372036854775807 := by clear ih hB hs; omega
    simp only [spec_l5Back.l0]
    rw [if_pos (by omega), if_pos (by omega), if_pos (by omega), lo_eq (by omega), if_pos (by omega), if_pos (by omega), Int.toNat_natCast, spec_l1Sum_f (by omega) (by simp; omega) (by simp; omega)]
    simp only [Option.bind_some]
    rw [if_pos (by omega), w64s (by omega), w64 (n := rd c i - sumL (acc.drop (lo i))) hv.1 hv.2]
    rw [ih k (i + 1) _ (by simp; omega) (by omega) ?_ (by omega)]
    · simp only [unp, hl]
    · rw [sabs_append]
      rw [bnd_s]
      exact absStep (sabs_nn acc) hs hx (Int.le_trans (Int.neg_le_neg hd) hd2.1) (Int.le_trans hd2.2 hd)
theorem l5Back_f {k : Nat} {c : List Int} (hn : c.length ≤ 1048576) (hk : 1048700 < k) : spec_l5Back.f k c = some (if allIn c 0 3200000 then packRes c else ([], false)) := by
  obtain ⟨k, rfl⟩ : ∃ m, k = m + 1 := ⟨k - 1, by omega⟩
  unfold spec_l5Back.f packRes
  simp (disch := omega) only [l1In_f, l1All_f, Option.bind_some]
  by_cases h : inn (c.length : Int) 1 32 = true
  · rw [if_pos h, if_pos h]
    have h2 := inn_t.1 h
    by_cases h1 : allIn c 0 3200000 = true
    · rw [h1, if_pos rfl]
      simp only [Bool.not_true, spec_l5Back.j0, Bool.false_eq_true, if_false]
      exact l5Back_l0 c (allIn_bd h1) (by omega) c.length k 0 [] rfl (by omega) (by rw [bnd_z]; simp [sabs]) (by omega)
    · rw [Bool.eq_false_iff.2 h1]; simp [spec_l5Back.j0]
  · rw [if_neg h, if_neg h]; simp [spec_l5Back.j0]
theorem Equal_l0 (l : List Int) (hn : l.length ≤ 100000000000000) (d : Nat) : ∀ (k i : Nat), i + d = l.length → d < k → slices_Equal_int_int.l0 k l l (l.length : Int) i = some true := by
  induction d with
  | zero =>
    intro k i hi hk
    obtain ⟨k, rfl⟩ := step_k hk
    simp only [slices_Equal_int_int.l0]; rw [if_neg (by omega)]
  | succ d ih =>
    intro k i hi hk
    obtain ⟨k, rfl⟩ := step_k hk
    simp only [slices_Equal_int_int.l0]
    rw [if_pos (by omega), if_pos (by omega), if_pos (by omega), if_pos (by omega), if_true, w64s (by omega)]
    exact ih k (i + 1) (by omega) (by omega)
theorem Equal_f {k : Nat} {l : List Int} (hn : l.length ≤ 100000000000000) (hk : l.length < k) : slices_Equal_int_int.f k l l = some true := by
  unfold slices_Equal_int_int.f
  rw [if_pos rfl]
  exact Equal_l0 l hn l.length k 0 (by omega) hk
def fits (c acc : List Int) : Prop := ∀ j, j < acc.length → rd c j = sumL ((acc.take (j + 1)).drop (lo j))
theorem fits_add {c acc : List Int} (h : fits c acc) (hl : acc.length < 32) : fits c (acc ++ [rd c acc.length - sumL (acc.drop (lo acc.length))]) := by
  intro j hj
  simp at hj
  by_cases e : j = acc.length
  · subst e
    have := lo_le hl
    rw [List.take_of_length_le (by simp), List.drop_append_of_le_length this, sumL_append]
    simp only [sumL]; omega
  · rw [List.take_append_of_le_length (by omega)]
    exact h j (by omega)
theorem fits_cell {c acc : List Int} (h : fits c acc) (hl : acc.length = c.length) : cellL acc = c := by
  apply List.ext_getElem?
  intro j
  by_cases e : j < acc.length
  · rw [cellL_at acc j e, rd_get c j (by omega), h j e]
  · rw [List.getElem?_eq_none (by rw [cellL_len]; omega), List.getElem?_eq_none (by omega)]
theorem okC_not {l : List Int} {x : Int} (hx : x ∈ l) (h : inn x 0 100000 = false) : okC l = false := by
  rw [Bool.eq_false_iff]
  intro h2
  have := okC_bd h2 x hx
  rw [inn_f] at h
  omega
theorem Sums_list_l0 (c : List Int) (hb : ∀ x ∈ c, (Lit.int .i64 x).wf = true) (h1 : 1 ≤ c.length) (hn : c.length ≤ 32) (d : Nat) : ∀ (k i : Nat) (acc : List Int), acc.length = i → i + d = c.length → (∀ x ∈ acc, 0 ≤ x ∧ x ≤ 100000) → fits c acc → d + 100 < k → impl_Sums_list.l0 k acc c (c.length : Int) i c = some (packEnd (unp c d acc)) := by
  induction d with
  | zero =>
    intro k i acc hl hi hs hf hk
    obtain ⟨k, rfl⟩ : ∃ m, k = m + 1 := ⟨k - 1, by omega⟩
    have ha := sabs_bd hs
    have hok : okC acc = true := by
      simp only [okC, Bool.and_eq_true, inn_t]
      exact ⟨by omega, allIn_of hs⟩
    simp only [impl_Sums_list.l0]; rw [if_neg (by omega), cellsOf_f (by omega) (by omega) (by omega)]
    simp only [Option.bind_some, unp, packEnd, hok, if_true]
    rw [fits_cell hf (by omega), Equal_f (by omega) (by omega)]
    rfl
  | succ d ih =>
    intro k i acc hl hi hs hf hk
    obtain ⟨k, rfl⟩ : ∃ m, k = m + 1 := ⟨k - 1, by omega⟩
    have hlo := lo_le (i := i) (by omega)
    have hx := i64_bd (hb _ (rd_mem c i (by omega)))
    have hd := sabs_drop acc (lo i)
    have ha := sabs_bd hs
    have hd2 := sumL_bd (l := acc.drop (lo i)) (M := 100000) fun x hx => hs x (List.mem_of_mem_drop hx)
    have hdl : (acc.drop (lo i)).length ≤ 32 := by simp; omega
    have hrd : rd (acc ++ [wrap64 (rd c i - sumL (acc.drop (lo i)))]) (i : Int) = wrap64 (rd c i - sumL (acc.drop (lo i))) := by
      rw [rd_eq, List.getD_eq_getElem?_getD, List.getElem?_append_right (by omega), hl]; simp
    simp only [impl_Sums_list.l0]
    rw [if_pos (by omega), if_pos (by omega), if_pos (by omega), lo_eq (by omega), if_pos (by omega), if_pos (by omega), if_pos (by omega), Int.toNat_natCast, Int.toNat_natCast, List.take_of_length_le (by omega), impl_sumOf_f (by omega) (by simp; omega) (by simp; omega)]
    simp only [Option.bind_some]
    rw [if_pos (by omega), if_pos (by simp; omega), hrd, w64s (by omega)]
    simp only [within_f, Option.bind_some]
    obtain ⟨t, ht, _⟩ := unp_pre c d (acc ++ [rd c acc.length - sumL (acc.drop (lo acc.length))])
    by_cases h2 : inn (wrap64 (rd c i - sumL (acc.drop (lo i)))) 0 100000 = true
    · have h3 := inn_t.1 h2
      have h4 : wrap64 (rd c i - sumL (acc.drop (lo i))) = rd c i - sumL (acc.drop (lo i)) := by unfold wrap64 at h3 ⊢; omega
      rw [if_pos h2, h4]
      rw [h4] at h3
      subst hl
      rw [ih k (acc.length + 1) _ (by simp) (by omega) ?_ (fits_add hf (by omega)) (by omega)]
      · simp only [unp]
      · intro x hx'
        rcases List.mem_append.1 hx' with h5 | h5
        · exact hs x h5
        · rw [List.mem_singleton.1 h5]; exact h3
    · have h3 := inn_f.1 (Bool.eq_false_iff.2 h2)
      rw [if_neg h2]
      subst hl
      have h6 : okC (unp c (d + 1) acc) = false := by
        refine okC_not (x := rd c acc.length - sumL (acc.drop (lo acc.length))) ?_ ?_
        · simp only [unp]; rw [ht]; simp
        · rw [inn_f]; unfold wrap64 at h3; omega
      simp only [packEnd, h6, Bool.false_eq_true, if_false]
theorem Sums_list_f {k : Nat} {c : List Int} (hb : ∀ x ∈ c, (Lit.int .i64 x).wf = true) (hn : c.length ≤ 1048576) (hk : 1048700 < k) : impl_Sums_list.f k c = some (packRes c) := by
  unfold impl_Sums_list.f packRes
  simp only [within_f, Option.bind_some]
  by_cases h : inn (c.length : Int) 1 32 = true
  · have h2 := inn_t.1 h
    rw [if_pos h, if_pos h]
    exact Sums_list_l0 c hb (by omega) (by omega) c.length k 0 [] rfl (by omega) (by simp) (by intro j hj; simp at hj) (by omega)
  · rw [if_neg h, if_neg h]
/-- What is packed out of a list in bounds lies in bounds itself. -/
theorem unp_fits (c : List Int) : ∀ d acc, fits c acc → acc.length + d ≤ 32 → fits c (unp c d acc) := by
  intro d
  induction d with
  | zero => intro acc h _; exact h
  | succ d ih => intro acc h hl; exact ih _ (fits_add h (by omega)) (by simp; omega)
theorem packRes_all {c : List Int} : (if allIn c 0 3200000 then packRes c else ([], false)) = packRes c := by
  by_cases h : allIn c 0 3200000 = true
  · rw [if_pos h]
  · rw [if_neg h]
    unfold packRes
    by_cases h1 : inn (c.length : Int) 1 32 = true
    · have h2 := inn_t.1 h1
      rw [if_pos h1]
      unfold packEnd
      by_cases h3 : okC (unp c c.length []) = true
      · exfalso
        apply h
        have hf := unp_fits c c.length [] (by intro j hj; simp at hj) (by simp; omega)
        have hl := unp_len c c.length []
        refine (allFrom_iff c 0 3200000 c.length 0).2 fun j _ hj => ?_
        rw [hf j (by simp at hl; omega)]
        have := sumL_bd (l := ((unp c c.length []).take (j + 1)).drop (lo j)) (M := 100000) fun x hx => okC_bd h3 x (List.mem_of_mem_take (List.mem_of_mem_drop hx))
        have h6 : (((unp c c.length []).take (j + 1)).drop (lo j)).length ≤ 32 := by simp at hl ⊢; omega
        omega
      · rw [if_neg h3]
    · rw [if_neg h1]
theorem l5Back_p {k : Nat} {c : List Int} (hn : c.length ≤ 1048576) (hk : 1048700 < k) : spec_l5Back.f k c = some (packRes c) := by
  rw [l5Back_f hn hk, packRes_all]
theorem pack_seg {c : List Int} (h : (packRes c).2 = true) (a b : Nat) : sabs (((packRes c).1.take a).drop b) ≤ 1000000000000000000 := seg_abs _ a b (okC_abs (packRes_ok h))
theorem pack_segl (c : List Int) (a b : Nat) : (((packRes c).1.take a).drop b).length ≤ 32 := by
  have := packRes_len c
  simp; omega
def sumsRes (l : List Int) : List Int × Bool := if okC l then (cellL l, true) else ([], false)
theorem sumsRes_len (l : List Int) : (sumsRes l).1.length ≤ 32 := by
  unfold sumsRes
  split
  · rename_i h
    have := okC_len h
    show (cellL l).length ≤ 32
    rw [cellL_len]; omega
  · simp
theorem spec_SumsOf_f {k : Nat} {l : List Int} (hn : l.length ≤ 1048576) (hk : 1048700 < k) : spec_SumsOf.f k l = some (sumsRes l) := by
  unfold spec_SumsOf.f sumsRes
  rw [l5List_f (by omega) (by omega)]
  simp only [Option.bind_some]
  by_cases h : okC l = true
  · rw [if_pos h, if_pos h, l5Of_f (okC_abs h) (okC_len h).2 (by omega)]; rfl
  · rw [if_neg h, if_neg h]
def toRes (c : List Int) (b : Int) : Int × Bool := if (packRes c).2 && decide (0 ≤ b ∧ b ≤ ((packRes c).1.length : Int)) then (sumL ((packRes c).1.take b.toNat), true) else (0, false)
theorem spec_SumTo_f {k : Nat} {l : List Int} {b : Int} (hn : l.length ≤ 1048576) (hk : 1048700 < k) : spec_SumTo.f k l b = some (toRes l b) := by
  have hl := packRes_len l
  unfold spec_SumTo.f spec_BetweenOf.f toRes
  rw [l5Back_p hn hk]
  simp only [Option.bind_some, l1In_f]
  by_cases h : (packRes l).2 = true
  · rw [if_pos h, h, Bool.true_and]
    by_cases h1 : inn b 0 ((packRes l).1.length : Int) = true
    · have h2 := inn_t.1 h1
      rw [if_pos h1]
      by_cases h3 : inn 0 0 b = true
      · have h4 := inn_t.1 h3
        rw [if_pos h3, if_pos (by omega), if_pos (by omega), if_pos (by omega), spec_l1Sum_f (pack_seg h _ _) (by have := pack_segl l b.toNat (0 : Int).toNat; omega) (by have := pack_segl l b.toNat (0 : Int).toNat; omega), if_pos (by simp; omega)]; rfl
      · have h4 := inn_f.1 (Bool.eq_false_iff.2 h3)
        omega
    · have h4 := inn_f.1 (Bool.eq_false_iff.2 h1)
      rw [if_neg h1, if_neg (by simp; omega)]; rfl
  · rw [if_neg h]; simp [h]
theorem impl_SumTo_f {k : Nat} {l : List Int} {b : Int} (hb : ∀ x ∈ l, (Lit.int .i64 x).wf = true) (hn : l.length ≤ 1048576) (hk : 1048700 < k) : impl_SumTo.f k l b = some (toRes l b) := by
  have hl := packRes_len l
  unfold impl_SumTo.f toRes
  rw [Sums_list_f hb hn hk]
  simp only [Option.bind_some, within_f]
  by_cases h : (packRes l).2 = true
  · rw [if_pos h, h, Bool.true_and]
    by_cases h1 : inn b 0 ((packRes l).1.length : Int) = true
    · have h2 := inn_t.1 h1
      have e := pack_seg h b.toNat 0
      have e2 := pack_segl l b.toNat 0
      rw [List.drop_zero] at e e2
      rw [if_pos h1, if_pos (by omega), if_pos (by omega), impl_sumOf_f e (by omega) (by omega), if_pos (by simp; omega)]; rfl
    · have h4 := inn_f.1 (Bool.eq_false_iff.2 h1)
      rw [if_neg h1, if_neg (by simp; omega)]
  · rw [if_neg h]; simp [h]
def betRes (c : List Int) (a b : Int) : Int × Bool := if (packRes c).2 && decide (0 ≤ a ∧ a ≤ b ∧ b ≤ ((packRes c).1.length : Int)) then (sumL (((packRes c).1.take b.toNat).drop a.toNat), true) else (0, false)
theorem spec_BetweenOf_f {k : Nat} {l : List Int} {a b : Int} (hn : l.length ≤ 1048576) (hk : 1048700 < k) : spec_BetweenOf.f k l a b = some (betRes l a b) := by
  have hl := packRes_len l
  unfold spec_BetweenOf.f betRes
  rw [l5Back_p hn hk]
  simp only [Option.bind_some, l1In_f]
  by_cases h : (packRes l).2 = true
  · rw [if_pos h, h, Bool.true_and]
    by_cases h1 : inn b 0 ((packRes l).1.length : Int) = true
    · have h2 := inn_t.1 h1
      rw [if_pos h1]
      by_cases h3 : inn a 0 b = true
      · have h4 := inn_t.1 h3
        rw [if_pos h3, if_pos (by omega), if_pos (by omega), if_pos (by omega), spec_l1Sum_f (pack_seg h _ _) (by have := pack_segl l b.toNat a.toNat; omega) (by have := pack_segl l b.toNat a.toNat; omega), if_pos (by simp; omega)]; rfl
      · have h4 := inn_f.1 (Bool.eq_false_iff.2 h3)
        rw [if_neg h3, if_neg (by simp; omega)]
    · have h4 := inn_f.1 (Bool.eq_false_iff.2 h1)
      rw [if_neg h1, if_neg (by simp; omega)]
  · rw [if_neg h]; simp [h]
theorem impl_BetweenOf_f {k : Nat} {l : List Int} {a b : Int} (hb : ∀ x ∈ l, (Lit.int .i64 x).wf = true) (hn : l.length ≤ 1048576) (hk : 1048700 < k) : impl_BetweenOf.f k l a b = some (betRes l a b) := by
  have hl := packRes_len l
  unfold impl_BetweenOf.f betRes
  rw [Sums_list_f hb hn hk]
  simp only [Option.bind_some]
  by_cases h : (packRes l).2 = true
  · rw [if_pos h, h, Bool.true_and]
    by_cases h1 : a < 0
    · rw [if_pos h1, if_neg (by simp; omega)]
    · rw [if_neg h1]
      by_cases h2 : a > b
      · rw [if_pos h2, if_neg (by simp; omega)]
      · rw [if_neg h2]
        by_cases h3 : b > ((packRes l).1.length : Int)
        · rw [if_pos h3, if_neg (by simp; omega)]
        · rw [if_neg h3, if_pos (by omega), if_pos (by omega), if_pos (by omega), impl_sumOf_f (pack_seg h _ _) (by have := pack_segl l b.toNat a.toNat; omega) (by have := pack_segl l b.toNat a.toNat; omega), if_pos (by simp; omega)]; rfl
  · rw [if_neg h]; simp [h]
def fab (x : List Int) (a : Int) : Int → Nat → Nat → Int × Bool
  | _, _, 0 => (0, false)
  | s, i, d + 1 => if a < s + rd x i then ((i : Int), true) else fab x a (s + rd x i) (i + 1) d
theorem firstS_l0 {x : List Int} {a : Int} (hx : ∀ v ∈ x, 0 ≤ v ∧ v ≤ 100000) (ha : a ≤ 9223372036854775807) (hn : x.length ≤ 32) (d : Nat) : ∀ (k i : Nat) (s : Int), 0 ≤ s → s ≤ a → i + d = x.length → d < k → spec_FirstAbove.l0 k (a - s) x (x.length : Int) i = some (fab x a s i d) := by
  induction d with
  | zero =>
    intro k i s _ _ hi hk
    obtain ⟨k, rfl⟩ := step_k hk
    simp only [spec_FirstAbove.l0]; rw [if_neg (by omega)]; rfl
  | succ d ih =>
    intro k i s h0 h1 hi hk
    obtain ⟨k, rfl⟩ := step_k hk
    have hv := hx _ (rd_mem x i (by omega))
    simp only [spec_FirstAbove.l0]
    rw [if_pos (by omega), if_pos (by omega), if_pos (by omega), w64s (by omega), w64 (n := a - s - rd x i) (by omega) (by omega)]
    simp only [fab]
    by_cases h : a < s + rd x i
    · rw [if_pos (by omega), if_pos h]
    · rw [if_neg (by omega), if_neg h, show a - s - rd x i = a - (s + rd x i) by omega, ih k (i + 1) _ (by omega) (by omega) (by omega) (by omega)]
theorem firstI_l0 {x : List Int} {a : Int} (hx : ∀ v ∈ x, 0 ≤ v ∧ v ≤ 100000) (hn : x.length ≤ 32) (d : Nat) : ∀ (k i : Nat) (s : Int), 0 ≤ s → s ≤ 100000 * (i : Int) → i + d = x.length → d < k → impl_FirstAbove.l0 k a s x (x.length : Int) i = some (fab x a s i d) := by
  induction d with
  | zero =>
    intro k i s _ _ hi hk
    obtain ⟨k, rfl⟩ := step_k hk
    simp only [impl_FirstAbove.l0]; rw [if_neg (by omega)]; rfl
  | succ d ih =>
    intro k i s h0 h1 hi hk
    obtain ⟨k, rfl⟩ := step_k hk
    have hv := hx _ (rd_mem x i (by omega))
    simp only [impl_FirstAbove.l0]
    rw [if_pos (by omega), if_pos (by omega), if_pos (by omega), w64s (by omega), w64 (n := s + rd x i) (by omega) (by omega)]
    simp only [fab]
    by_cases h : a < s + rd x i
    · rw [if_pos (by omega), if_pos h]
    · rw [if_neg (by omega), if_neg h, ih k (i + 1) _ (by omega) (by omega) (by omega) (by omega)]
def firstRes (c : List Int) (a : Int) : Int × Bool := if (packRes c).2 && decide (0 ≤ a) then fab (packRes c).1 a 0 0 (packRes c).1.length else (0, false)
theorem spec_FirstAbove_f {k : Nat} {l : List Int} {a : Int} (ha : a ≤ 9223372036854775807) (hn : l.length ≤ 1048576) (hk : 1048700 < k) : spec_FirstAbove.f k l a = some (firstRes l a) := by
  have hl := packRes_len l
  obtain ⟨k, rfl⟩ : ∃ m, k = m + 1 := ⟨k - 1, by omega⟩
  unfold spec_FirstAbove.f firstRes
  rw [l5Back_p hn hk]
  simp only [Option.bind_some]
  by_cases h : (packRes l).2 = true
  · rw [if_pos h, h, Bool.true_and]
    by_cases h1 : a < 0
    · rw [if_neg (by simp; omega)]; simp [spec_FirstAbove.j0, h1]
    · rw [if_pos (by simp; omega)]
      simp only [spec_FirstAbove.j0, h1, decide_false, Bool.false_eq_true, if_false]
      have := firstS_l0 (okC_bd (packRes_ok h)) ha hl (packRes l).1.length k 0 0 (by omega) (by omega) (by omega) (by omega)
      simpa using this
  · rw [if_neg h]; simp [h, spec_FirstAbove.j0]
theorem impl_FirstAbove_f {k : Nat} {l : List Int} {a : Int} (ha : a ≤ 9223372036854775807) (hb : ∀ x ∈ l, (Lit.int .i64 x).wf = true) (hn : l.length ≤ 1048576) (hk : 1048700 < k) : impl_FirstAbove.f k l a = some (firstRes l a) := by
  have hl := packRes_len l
  obtain ⟨k, rfl⟩ : ∃ m, k = m + 1 := ⟨k - 1, by omega⟩
  unfold impl_FirstAbove.f firstRes
  rw [Sums_list_f hb hn hk]
  simp only [Option.bind_some]
  by_cases h : (packRes l).2 = true
  · rw [if_pos h, h, Bool.true_and]
    by_cases h1 : a < 0
    · rw [if_neg (by simp; omega)]; simp [impl_FirstAbove.j0, h1]
    · rw [if_pos (by simp; omega)]
      simp only [impl_FirstAbove.j0, h1, decide_false, Bool.false_eq_true, if_false]
      have := firstI_l0 (a := a) (okC_bd (packRes_ok h)) hl (packRes l).1.length k 0 0 (by omega) (by omega) (by omega) (by omega)
      simpa using this
  · rw [if_neg h]; simp [h, impl_FirstAbove.j0]
theorem spec_ListOf_f {k : Nat} {l : List Int} (hn : l.length ≤ 1048576) (hk : 1048700 < k) : spec_ListOf.f k l = some (packRes l) := by
  unfold spec_ListOf.f; rw [l5Back_p hn hk]; rfl
theorem impl_ListOf_f {k : Nat} {l : List Int} (hb : ∀ x ∈ l, (Lit.int .i64 x).wf = true) (hn : l.length ≤ 1048576) (hk : 1048700 < k) : impl_ListOf.f k l = some (packRes l) := by
  unfold impl_ListOf.f; rw [Sums_list_f hb hn hk]; rfl
theorem u8_bd {l : List Int} (h : ∀ v ∈ l, (Lit.int .u8 v).wf = true) : ∀ v ∈ l, 0 ≤ v ∧ v ≤ 255 := by
  intro v hv
  have := h v hv
  simp [Lit.wf, IntKind.min, IntKind.max, IntKind.signed, IntKind.bits] at this
  omega
theorem wraps_u64 (n : Int) (h₀ : 0 ≤ n) (h₁ : n < 2 ^ 63) : IntKind.u64.wrap n = n := by
  simp [IntKind.wrap, IntKind.bits, IntKind.signed]; omega
theorem wrapu_nn (n : Int) : 0 ≤ IntKind.u64.wrap n ∧ IntKind.u64.wrap n < 2 ^ 64 := by
  simp [IntKind.wrap, IntKind.bits, IntKind.signed]; omega
theorem and255 {x : Int} (h0 : 0 ≤ x) (h1 : x < 2 ^ 63) : 0 ≤ Go.bits .and .u64 x 255 ∧ Go.bits .and .u64 x 255 ≤ 255 := by
  obtain ⟨a, rfl⟩ := Int.eq_ofNat_of_zero_le h0
  have ha : a < 2 ^ 63 := by exact_mod_cast h1
  have e := (bits_nat .u64 63 (by decide) wraps_u64 a 255 ha (by decide)).1
  rw [show ((255 : Nat) : Int) = 255 from rfl] at e
  rw [e]
  have : a &&& 255 ≤ 255 := Nat.and_le_right
  omega
theorem next_ex {l : List Int} (hl : ∀ v ∈ l, 0 ≤ v ∧ v ≤ 255) (hn : l.length ≤ 1000000000000000) (n s : Int) (h0 : 0 ≤ n) (h1 : n ≤ 1000000000000000) :
    ∃ b s', spec_l1Cur_next.f l n s = some (b, n + 1, s') ∧ 0 ≤ b ∧ b ≤ 255 := by
  have e : wrap64 (n + 1) = n + 1 := w64 (by omega) (by omega)
  have sm : ∀ q : Int, 0 ≤ wrap64 (Go.bits .and .u64 (IntKind.u64.wrap q / 1099511627776) 255) ∧ wrap64 (Go.bits .and .u64 (IntKind.u64.wrap q / 1099511627776) 255) ≤ 255 := by
    intro q
    have h2 := wrapu_nn q
    have h3 := and255 (x := IntKind.u64.wrap q / 1099511627776) (by omega) (by omega)
    rw [w64 (by omega) (by omega)]; exact h3
  unfold spec_l1Cur_next.f
  rw [e]
  by_cases h : n < (l.length : Int)
  · have hm := hl _ (rd_mem l n.toNat (by omega))
    rw [show ((n.toNat : Nat) : Int) = n by omega] at hm
    rw [if_pos h, if_pos h0, if_pos (by omega), w64 (n := rd l n) (by omega) (by omega)]
    exact ⟨_, _, rfl, hm.1, hm.2⟩
  · rw [if_neg h, if_neg (by omega)]
    exact ⟨_, _, rfl, (sm _).1, (sm _).2⟩
theorem pick_ex {l : List Int} (hl : ∀ v ∈ l, 0 ≤ v ∧ v ≤ 255) (hn : l.length ≤ 1000000000000000) (n s q : Int) (h0 : 0 ≤ n) (h1 : n ≤ 999999999999999) :
    ∃ b n' s', spec_l1Cur_pick.f l n s q = some (b, n', s') ∧ n ≤ n' ∧ n' ≤ n + 2 ∧ 0 ≤ b ∧ (b < q ∨ b = 0) := by
  unfold spec_l1Cur_pick.f
  by_cases h : q ≤ 1
  · rw [if_pos h]; exact ⟨_, _, _, rfl, by omega, by omega, by omega, .inr rfl⟩
  · obtain ⟨b, s1, e1, hb0, hb1⟩ := next_ex hl hn n s h0 (by omega)
    rw [if_neg h, e1]
    simp only [Option.bind_some]
    by_cases h2 : q > 200
    · obtain ⟨b2, s2, e2, hc0, hc1⟩ := next_ex hl hn (n + 1) s1 (by omega) (by omega)
      rw [if_pos h2, e2]
      simp only [Option.bind_some]
      rw [if_neg (by omega), w64 (n := b * 256) (by omega) (by omega), w64 (n := b * 256 + b2) (by omega) (by omega)]
      refine ⟨_, _, _, rfl, by omega, by omega, Int.tmod_nonneg _ (by omega), .inl (Int.tmod_lt_of_pos _ (by omega))⟩
    · rw [if_neg h2, if_neg (by omega)]
      exact ⟨_, _, _, rfl, by omega, by omega, Int.tmod_nonneg _ (by omega), .inl (Int.tmod_lt_of_pos _ (by omega))⟩
theorem among_ex {l : List Int} (hl : ∀ v ∈ l, 0 ≤ v ∧ v ≤ 255) (hn : l.length ≤ 1000000000000000) (n s : Int) (xs : List Int) (hx : 0 < xs.length) (h0 : 0 ≤ n) (h1 : n ≤ 999999999999999) :
    ∃ b n' s', spec_l1Cur_among.f l n s xs = some (b, n', s') ∧ n ≤ n' ∧ n' ≤ n + 2 ∧ b ∈ xs := by
  unfold spec_l1Cur_among.f
  obtain ⟨b, n1, s1, e1, h2, h3, h4, h5⟩ := pick_ex hl hn n s (xs.length : Int) h0 h1
  rw [e1]
  simp only [Option.bind_some]
  rw [if_pos h4, if_pos (by omega)]
  refine ⟨_, _, _, rfl, h2, h3, ?_⟩
  have := rd_mem xs b.toNat (by omega)
  rwa [show ((b.toNat : Nat) : Int) = b by omega] at this
theorem one_ex {l : List Int} (hl : ∀ v ∈ l, 0 ≤ v ∧ v ≤ 255) (hn : l.length ≤ 1000000000000000) (n s q : Int) (h0 : 0 ≤ n) (h1 : n ≤ 999999999999999) :
    ∃ b n' s', spec_l1Cur_one.f l n s q = some (b, n', s') ∧ n ≤ n' ∧ n' ≤ n + 2 := by
  obtain ⟨b, n1, s1, e1, h2, h3, _⟩ := pick_ex hl hn n s q h0 h1
  unfold spec_l1Cur_one.f
  rw [e1]
  exact ⟨_, _, _, rfl, h2, h3⟩
theorem cells_l0 {l : List Int} (hl : ∀ v ∈ l, 0 ≤ v ∧ v ≤ 255) (hn : l.length ≤ 1000000000000000) : ∀ (d k : Nat) (acc : List Int) (n s : Int), acc.length + d ≤ 1000000 → d < k → 0 ≤ n → n + 2 * d + 10 ≤ 999999999999999 → ∃ st n' s', spec_l1Cur_cells.l0 k acc (d : Int) l n s = some (st, n', s') ∧ n ≤ n' ∧ n' ≤ n + 2 * d + 4 ∧ st.length = acc.length + d := by
  intro d
  induction d with
  | zero =>
    intro k acc n s ha hk h0 h1
    obtain ⟨k, rfl⟩ := step_k hk
    simp only [spec_l1Cur_cells.l0]
    rw [if_neg (by omega)]
    by_cases hc : (acc.length : Int) > 0
    · obtain ⟨b, n1, s1, e1, h2, h3⟩ := one_ex hl hn n s 20 h0 (by omega)
      rw [if_pos hc, e1]
      simp only [Option.bind_some]
      by_cases hb : b = true
      · obtain ⟨c, n2, s2, e2, h4, h5, _⟩ := among_ex hl hn n1 s1 [(-1), 100000, 100001] (by decide) (by omega) (by omega)
        rw [if_pos hb, e2]
        simp only [Option.bind_some]
        rw [if_pos hc]
        exact ⟨_, _, _, rfl, by omega, by omega, by simp⟩
      · rw [if_neg hb]
        exact ⟨_, _, _, rfl, by omega, by omega, by simp⟩
    · rw [if_neg hc]
      exact ⟨_, _, _, rfl, by omega, by omega, by simp⟩
  | succ d ih =>
    intro k acc n s ha hk h0 h1
    obtain ⟨k, rfl⟩ := step_k hk
    obtain ⟨b, n1, s1, e1, h2, h3, _⟩ := pick_ex hl hn n s 20 h0 (by omega)
    simp only [spec_l1Cur_cells.l0]
    rw [if_pos (by omega), e1]
    simp only [Option.bind_some]
    rw [if_pos (by omega), w64 (n := ((d + 1 : Nat) : Int) - 1) (by omega) (by omega), show ((d + 1 : Nat) : Int) - 1 = (d : Int) by omega]
    obtain ⟨st, n2, s2, e2, h4, h5, h6⟩ := ih k (acc ++ [b]) n1 s1 (by simp; omega) (by omega) (by omega) (by omega)
    rw [e2]
    exact ⟨_, _, _, rfl, by omega, by omega, by rw [h6]; simp; omega⟩
theorem cells_ex {l : List Int} (hl : ∀ v ∈ l, 0 ≤ v ∧ v ≤ 255) (hn : l.length ≤ 1000000000000000) (k : Nat) (n s : Int) (h0 : 0 ≤ n) (h1 : n ≤ 99999999999999) (hk : 50 < k) : ∃ st n' s', spec_l1Cur_cells.f k l n s = some (st, n', s') ∧ n ≤ n' ∧ n' ≤ n + 100 ∧ st.length ≤ 33 := by
  obtain ⟨k, rfl⟩ : ∃ q, k = q + 1 := ⟨k - 1, by omega⟩
  obtain ⟨b, n1, s1, e1, h2, h3, h4, h5⟩ := pick_ex hl hn n s 14 h0 (by omega)
  obtain ⟨b2, n2, s2, e2, h6, h7⟩ := one_ex hl hn n1 s1 20 (by omega) (by omega)
  unfold spec_l1Cur_cells.f
  rw [e1]
  simp only [Option.bind_some]
  rw [e2]
  simp only [Option.bind_some, spec_l1Cur_cells.j0]
  have key : ∀ (x n : Int) (s : Int), 0 ≤ x → x ≤ 33 → 0 ≤ n → n ≤ 199999999999999 → ∃ st n' s', spec_l1Cur_cells.l0 k ([] : List Int) x l n s = some (st, n', s') ∧ n ≤ n' ∧ n' ≤ n + 80 ∧ st.length ≤ 33 := by
    intro x n s hx hx2 hn0 hn1
    obtain ⟨st, n', s', e, h8, h9, h10⟩ := cells_l0 hl hn x.toNat k [] n s (by simp; omega) (by omega) hn0 (by omega)
    rw [show ((x.toNat : Nat) : Int) = x by omega] at e
    exact ⟨st, n', s', e, h8, by omega, by simp at h10; omega⟩
  by_cases hb : b2 = true
  · obtain ⟨c, n3, s3, e3, h8, h9, h10⟩ := among_ex hl hn n2 s2 [0, 32, 33] (by decide) (by omega) (by omega)
    rw [if_pos hb, e3]
    simp only [Option.bind_some]
    have hc : 0 ≤ c ∧ c ≤ 33 := by simp at h10; omega
    obtain ⟨st, n', s', e, h11, h12, h13⟩ := key c n3 s3 hc.1 hc.2 (by omega) (by omega)
    exact ⟨st, n', s', e, by omega, by omega, h13⟩
  · rw [if_neg hb, w64 (n := 1 + b) (by omega) (by omega)]
    obtain ⟨st, n', s', e, h11, h12, h13⟩ := key (1 + b) n2 s2 (by omega) (by omega) (by omega) (by omega)
    exact ⟨st, n', s', e, by omega, by omega, h13⟩
theorem sameInts_l0 (l : List Int) (hn : l.length ≤ 100000000000000) (d : Nat) : ∀ (k i : Nat), i + d = l.length → d < k → laws_sameInts.l0 k l l (l.length : Int) i = some true := by
  induction d with
  | zero =>
    intro k i hi hk
    obtain ⟨k, rfl⟩ := step_k hk
    simp only [laws_sameInts.l0]; rw [if_neg (by omega)]
  | succ d ih =>
    intro k i hi hk
    obtain ⟨k, rfl⟩ := step_k hk
    simp only [laws_sameInts.l0]
    rw [if_pos (by omega), if_pos (by omega), if_pos (by omega), if_pos (by omega), if_true, w64s (by omega)]
    exact ih k (i + 1) (by omega) (by omega)
theorem sameInts_f {k : Nat} {l : List Int} (hn : l.length ≤ 100000000000000) (hk : l.length < k) : laws_sameInts.f k l l = some true := by
  unfold laws_sameInts.f
  rw [if_pos rfl]
  exact sameInts_l0 l hn l.length k 0 (by omega) hk
theorem bind3 {α β : Type} {x : Option α} {f : α → Option β} {a : α} {b : Option β} (h : x = some a) (h2 : f a = b) : x.bind f = b := by rw [h]; exact h2
theorem wf_w (n : Int) : (Lit.int .i64 (wrap64 n)).wf = true := WalkArith.wf_i64 (by unfold wrap64; omega)
theorem sumsRes_wf (l : List Int) : ∀ x ∈ (sumsRes l).1, (Lit.int .i64 x).wf = true := by
  intro x hx
  unfold sumsRes at hx
  by_cases h : okC l = true
  · rw [if_pos h] at hx
    simp only [cellL, List.mem_map] at hx
    obtain ⟨i, _, rfl⟩ := hx
    have h1 := seg_abs l (i + 1) (lo i) (okC_abs h)
    have h2 := sumL_abs ((l.take (i + 1)).drop (lo i))
    exact WalkArith.wf_i64 ⟨by omega, by omega⟩
  · rw [if_neg h] at hx; simp at hx
theorem sums_ex {l : List Int} (hl : ∀ v ∈ l, 0 ≤ v ∧ v ≤ 255) (hn : l.length ≤ 1048576) (k : Nat) (hk : 1248700 < k) : ∃ c n' s', spec_l1Cur_sums.f k l 0 0 = some (c, n', s') ∧ 0 ≤ n' ∧ n' ≤ 200 ∧ c.length ≤ 32 ∧ ∀ x ∈ c, (Lit.int .i64 x).wf = true := by
  obtain ⟨k, rfl⟩ : ∃ q, k = q + 1 := ⟨k - 1, by omega⟩
  obtain ⟨st, n1, s1, e1, h2, h3, h4⟩ := cells_ex hl (by omega) (k + 1) 0 0 (by omega) (by omega) (by omega)
  have e2 := spec_SumsOf_f (k := k + 1) (l := st) (by omega) (by omega)
  have h5 := sumsRes_len st
  have h6 := sumsRes_wf st
  unfold spec_l1Cur_sums.f
  rw [e1]; simp only [Option.bind_some]
  rw [e2]; simp only [Option.bind_some]
  by_cases hp : ((sumsRes st).1.length : Int) > 0
  · obtain ⟨b, n2, s2, e3, h7, h8⟩ := one_ex hl (by omega) n1 s1 20 (by omega) (by omega)
    rw [if_pos hp, e3]; simp only [Option.bind_some, spec_l1Cur_sums.j0]
    by_cases hb : b = true
    · obtain ⟨i, n3, s3, e4, h9, h10, h11, h12⟩ := pick_ex hl (by omega) n2 s2 ((sumsRes st).1.length : Int) (by omega) (by omega)
      obtain ⟨v, n4, s4, e5, h13, h14, _⟩ := pick_ex hl (by omega) n3 s3 5 (by omega) (by omega)
      rw [if_pos hb, e4]; simp only [Option.bind_some]
      rw [if_pos h11, if_pos (by omega), e5]
      refine ⟨(sumsRes st).1.set i.toNat (wrap64 (rd (sumsRes st).1 i + wrap64 (v - 2))), n4, s4, rfl, by omega, by omega, by rw [List.length_set]; exact h5, fun x hx => ?_⟩
      rcases List.mem_or_eq_of_mem_set hx with h15 | h15
      · exact h6 x h15
      · rw [h15]; exact wf_w _
    · rw [if_neg hb]
      exact ⟨(sumsRes st).1, n2, s2, rfl, by omega, by omega, h5, h6⟩
  · rw [if_neg hp]; simp only [spec_l1Cur_sums.j0, Bool.false_eq_true, if_false]
    exact ⟨(sumsRes st).1, n1, s1, rfl, by omega, by omega, h5, h6⟩
theorem sum_take (x : List Int) (i : Nat) (h : i < x.length) : sumL (x.take (i + 1)) = sumL (x.take i) + rd x i := by
  have h1 := drop_rd x i h
  have h2 := sumL_append (x.take (i + 1)) (x.drop (i + 1))
  have h3 := sumL_append (x.take i) (x.drop i)
  rw [List.take_append_drop] at h2 h3
  rw [h1] at h3
  simp only [sumL] at h3
  omega
theorem sum_seg (x : List Int) (a b : Nat) (h : a ≤ b) : sumL ((x.take b).drop a) = sumL (x.take b) - sumL (x.take a) := by
  have h2 := sumL_append ((x.take b).take a) ((x.take b).drop a)
  rw [List.take_append_drop, List.take_take, Nat.min_eq_left h] at h2
  omega
theorem fab_prop (x : List Int) (a : Int) : ∀ (d i : Nat) (s : Int), s = sumL (x.take i) → s ≤ a → i + d = x.length → fab x a s i d = (0, false) ∨ ∃ j : Nat, fab x a s i d = ((j : Int), true) ∧ j < x.length ∧ sumL (x.take j) ≤ a ∧ a < sumL (x.take (j + 1)) := by
  intro d
  induction d with
  | zero => intro i s _ _ _; exact .inl rfl
  | succ d ih =>
    intro i s hs hle hi
    have ht := sum_take x i (by omega)
    simp only [fab]
    by_cases h : a < s + rd x i
    · rw [if_pos h]; exact .inr ⟨i, rfl, by omega, by omega, by omega⟩
    · rw [if_neg h]; exact ih (i + 1) _ (by omega) (by omega) (by omega)
theorem pack_sum {c : List Int} (h : (packRes c).2 = true) (i : Nat) : 0 ≤ sumL ((packRes c).1.take i) ∧ sumL ((packRes c).1.take i) ≤ 3200000 := by
  have hb := okC_bd (packRes_ok h)
  have hl := packRes_len c
  have h1 := sumL_bd (l := (packRes c).1.take i) (M := 100000) fun x hx => hb x (List.mem_of_mem_take hx)
  have h2 : ((packRes c).1.take i).length ≤ 32 := by rw [List.length_take]; omega
  omega
theorem toRes_ok {c : List Int} (h : (packRes c).2 = true) (i : Nat) (hi : i ≤ (packRes c).1.length) : toRes c (i : Int) = (sumL ((packRes c).1.take i), true) := by
  unfold toRes
  rw [h, decide_eq_true (by omega), Int.toNat_natCast]; rfl
theorem A_j3 {k : Nat} {l : List Int} (hl : ∀ v ∈ l, 0 ≤ v ∧ v ≤ 255) (hn : l.length ≤ 1048576) (hk : 1248800 < k) : laws_FnAbove.j3 k l = some true := by
  obtain ⟨k, rfl⟩ : ∃ q, k = q + 1 := ⟨k - 1, by omega⟩
  obtain ⟨c, n1, s1, e1, h1, h2, h3, h4⟩ := sums_ex hl hn k (by omega)
  obtain ⟨b, n2, s2, e2, _⟩ := pick_ex hl (by omega) n1 s1 (wrap64 ((c.length : Int) + 3)) (by omega) (by omega)
  have ed : spec_DrawSumTo.f k l = some (c, wrap64 (b - 1)) := by
    unfold spec_DrawSumTo.f
    refine bind3 e1 ?_
    exact bind3 e2 rfl
  have ed2 : spec_DrawListOf.f k l = some c := by
    unfold spec_DrawListOf.f spec_DrawGoodSums.f
    rw [e1]; rfl
  have hp := packRes_len c
  simp only [laws_FnAbove.j3]
  rw [ed]; simp only [Option.bind_some]
  rw [impl_SumTo_f h4 (by omega) (by omega), spec_SumTo_f (by omega) (by omega)]; simp only [Option.bind_some]
  rw [ed2]; simp only [Option.bind_some]
  rw [impl_ListOf_f h4 (by omega) (by omega), spec_ListOf_f (by omega) (by omega)]
  simp only [Option.bind_some, beq_self_eq_true, if_true]
  rw [sameInts_f (by omega) (by omega)]; rfl
theorem A_j1 {k : Nat} {l : List Int} (hl : ∀ v ∈ l, 0 ≤ v ∧ v ≤ 255) (hn : l.length ≤ 1048576) (hk : 1248900 < k) : laws_FnAbove.j1 k l = some true := by
  obtain ⟨k, rfl⟩ : ∃ q, k = q + 2 := ⟨k - 2, by omega⟩
  have hj := A_j3 (k := k) hl hn (by omega)
  obtain ⟨c, n1, s1, e1, h1, h2, h3, h4⟩ := sums_ex hl hn (k + 1) (by omega)
  obtain ⟨p1, n2, s2, e2, g1, g2, _⟩ := pick_ex hl (by omega) n1 s1 (wrap64 ((c.length : Int) + 2)) (by omega) (by omega)
  obtain ⟨p2, n3, s3, e3, g3, g4, _⟩ := pick_ex hl (by omega) n2 s2 9 (by omega) (by omega)
  obtain ⟨p3, n4, s4, e4, g5, g6, _⟩ := pick_ex hl (by omega) n3 s3 6 (by omega) (by omega)
  obtain ⟨p4, n5, s5, e5, g7, g8, _⟩ := pick_ex hl (by omega) n4 s4 9 (by omega) (by omega)
  obtain ⟨a, b, ed⟩ : ∃ a b, spec_DrawBetweenOf.f (k + 1) l = some (c, a, b) := by
    refine ⟨wrap64 (p1 - wrap64 (Int.tdiv p2 8)), wrap64 (wrap64 (wrap64 (p1 - wrap64 (Int.tdiv p2 8)) + p3) - wrap64 (Int.tdiv p4 8)), ?_⟩
    unfold spec_DrawBetweenOf.f
    refine bind3 e1 ?_
    refine bind3 e2 ?_
    refine bind3 e3 ?_
    refine bind3 e4 ?_
    exact bind3 e5 rfl
  simp only [laws_FnAbove.j1]
  rw [ed]; simp only [Option.bind_some]
  rw [impl_BetweenOf_f h4 (by omega) (by omega), spec_BetweenOf_f (by omega) (by omega)]
  simp only [Option.bind_some, bne_self_eq_false, Bool.false_eq_true, if_false, laws_FnAbove.j2]
  by_cases hq : ((packRes c).2 && decide (0 ≤ a ∧ a ≤ b ∧ b ≤ ((packRes c).1.length : Int))) = true
  · have er : betRes c a b = (sumL (((packRes c).1.take b.toNat).drop a.toNat), true) := by unfold betRes; rw [if_pos hq]
    rw [Bool.and_eq_true, decide_eq_true_eq] at hq
    have ta := toRes_ok hq.1 a.toNat (by omega)
    have tb := toRes_ok hq.1 b.toNat (by omega)
    rw [show ((a.toNat : Nat) : Int) = a by omega] at ta
    rw [show ((b.toNat : Nat) : Int) = b by omega] at tb
    have ba := pack_sum hq.1 a.toNat
    have bb := pack_sum hq.1 b.toNat
    rw [er]
    simp only [if_true]
    rw [impl_SumTo_f h4 (by omega) (by omega), impl_SumTo_f h4 (by omega) (by omega), ta, tb]
    simp only [Option.bind_some, if_true]
    rw [w64 (by omega) (by omega), if_pos (sum_seg _ _ _ (by omega)), hj]
  · have er : betRes c a b = (0, false) := by unfold betRes; rw [if_neg hq]
    rw [er]
    simp only [Bool.false_eq_true, if_false]
    exact hj
theorem FnAbove : ∀ (l0 : List (Int)) (l1 : List (Int)), l0.length * 1 ≤ 140737488351232 → (∀ v ∈ l0, (Lit.int .u8 v).wf = true) → l1.length * 1 ≤ 140737488351232 → (∀ v ∈ l1, (Lit.int .u8 v).wf = true) → ∃ k, laws_FnAbove.f k l0 l1 = some true := by
  intro l0 l1 hl0 hw0 hl1 hw1
  have hb0 := u8_bd hw0
  have hb1 := u8_bd hw1
  suffices h : ∀ k, 2000000 ≤ k → laws_FnAbove.f k l0 l1 = some true from ⟨_, h _ (Nat.le_refl _)⟩
  intro k hk
  unfold laws_FnAbove.f
  rw [w64 (n := (l0.length : Int) + (l1.length : Int)) (by omega) (by omega)]
  by_cases h : (l0.length : Int) + (l1.length : Int) > 1048576
  · rw [if_pos h]
  · rw [if_neg h]
    obtain ⟨m, hm1, hm2⟩ : ∃ m, k = m + 1 ∧ 1999990 ≤ m := ⟨k - 1, by omega, by omega⟩
    obtain ⟨c, n1, s1, e1, h1, h2, h3, h4⟩ := sums_ex hb0 (by omega) k (by omega)
    obtain ⟨a, n2, s2, e2, _, _, hmem⟩ := among_ex hb0 (by omega) n1 s1 [(-1), 0, 5, 30, 100, 1000] (by simp) (by omega) (by omega)
    have ha : -1 ≤ a ∧ a ≤ 1000 := by simp at hmem; omega
    have ed : spec_DrawFirstAbove.f k l0 = some (c, a) := by
      unfold spec_DrawFirstAbove.f
      refine bind3 e1 ?_
      exact bind3 e2 rfl
    have hj := A_j1 (k := m) hb1 (by omega) (by omega)
    rw [ed]; simp only [Option.bind_some]
    rw [impl_FirstAbove_f (by omega) h4 (by omega) (by omega), spec_FirstAbove_f (by omega) (by omega) (by omega)]
    simp only [Option.bind_some, bne_self_eq_false, Bool.false_eq_true, if_false]
    rw [hm1]
    simp only [laws_FnAbove.j0, Bool.false_eq_true, if_false]
    have key : (firstRes c a).2 = false ∨ ∃ j : Nat, firstRes c a = ((j : Int), true) ∧ (packRes c).2 = true ∧ j < (packRes c).1.length ∧ sumL ((packRes c).1.take j) ≤ a ∧ a < sumL ((packRes c).1.take (j + 1)) := by
      unfold firstRes
      by_cases hq : ((packRes c).2 && decide (0 ≤ a)) = true
      · rw [if_pos hq]
        rw [Bool.and_eq_true, decide_eq_true_eq] at hq
        rcases fab_prop (packRes c).1 a (packRes c).1.length 0 0 (by simp [sumL]) hq.2 (by omega) with h5 | ⟨j, h5, h6, h7, h8⟩
        · rw [h5]; exact .inl rfl
        · rw [h5]; exact .inr ⟨j, rfl, hq.1, h6, h7, h8⟩
      · rw [if_neg hq]; exact .inl rfl
    rcases key with h5 | ⟨j, h5, h6, h7, h8, h9⟩
    · rw [h5]
      simp only [Bool.false_eq_true, if_false]
      exact hj
    · have hp := packRes_len c
      have t1 := toRes_ok h6 j (by omega)
      have t2 := toRes_ok h6 (j + 1) (by omega)
      rw [h5]
      simp only [if_true]
      rw [w64s (by omega), impl_SumTo_f h4 (by omega) (by omega), impl_SumTo_f h4 (by omega) (by omega), t1, t2]
      simp only [Option.bind_some, if_true]
      rw [if_neg (by omega), if_neg (by omega)]
      exact hj

end Go.Proofs.Ytdjdkabblfccjaa.Pure
