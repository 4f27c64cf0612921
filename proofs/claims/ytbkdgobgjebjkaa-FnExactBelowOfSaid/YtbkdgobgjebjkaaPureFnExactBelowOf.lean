/- The program's BelowOf and the reference's return the same at every list of blocks and every integer, in memory of their own, and leave the list as it is. No condition. -/
import Derived.Test.YtbkdgobgjebjkaaPFnExactBelowOfx0
import Derived.Test.YtbkdgobgjebjkaaPFnExactBelowOfx1
import Derived.Test.YtbkdgobgjebjkaaPFnExactBelowOfx2
import Derived.Test.YtbkdgobgjebjkaaPFnExactBelowOfx3
import Derived.Test.YtbkdgobgjebjkaaPFnExactBelowOfx4
import Derived.Test.YtbkdgobgjebjkaaPFnExactBelowOfx5
import Derived.Test.YtbkdgobgjebjkaaPFnExactBelowOfx6
namespace Go.Proofs.Ytbkdgobgjebjkaa.Pure
open Go.RowKit Go.Proofs.Ytbkdgobgjebjkaa.PFnExactBelowOf Go.Proofs.YtbkdgobgjebjkaaW.PrintWords Go.Proofs.YtbkdgobgjebjkaaW.PrintLast Go.Proofs.YtbkdgobgjebjkaaW.PrintMore
set_option linter.unusedVariables false
set_option linter.unusedSimpArgs false
theorem w64 {n : Int} (h0 : -9223372036854775808 ≤ n) (h1 : n ≤ 9223372036854775807) : wrap64 n = n := by unfold wrap64; omega
theorem w64s {i : Nat} (h1 : i ≤ 1000000000000000) : wrap64 ((i : Int) + 1) = ((i + 1 : Nat) : Int) := by rw [w64 (by omega) (by omega)]; omega
theorem rd_eq (l : List Int) (i : Nat) : rd l (i : Int) = l.getD i 0 := by simp [rd]
theorem rd_get (l : List Int) (i : Nat) (h : i < l.length) : l[i]? = some (rd l (i : Int)) := by
  simp [rd, List.getD_eq_getElem?_getD, List.getElem?_eq_getElem h]
theorem rd_mem (l : List Int) (i : Nat) (h : i < l.length) : rd l (i : Int) ∈ l := List.mem_of_getElem? (rd_get l i h)
theorem step_k {k d : Nat} (h : d < k) : ∃ m, k = m + 1 := ⟨k - 1, by omega⟩
def inn (a b c : Int) : Bool := decide (b ≤ a ∧ a ≤ c)
theorem inn_t {a b c : Int} : inn a b c = true ↔ b ≤ a ∧ a ≤ c := by simp [inn]
theorem inn_f {a b c : Int} : inn a b c = false ↔ a < b ∨ c < a := by simp [inn]; omega
theorem l1In_f (a b c : Int) : spec_l1In.f a b c = some (inn a b c) := by
  unfold spec_l1In.f inn
  by_cases h : a ≥ b
  · rw [if_pos h]; simp [show b ≤ a from h]
  · rw [if_neg h]; simp [show ¬ b ≤ a from h]
theorem within_f (a b c : Int) : impl_within.f a b c = some (inn a b c) := by
  unfold impl_within.f inn
  by_cases h : a ≥ b
  · rw [if_pos h]; simp [show b ≤ a from h]
  · rw [if_neg h]; simp [show ¬ b ≤ a from h]
def par (l : List S72) (b : Int) : Int := (rd_T72 l b).f0
def slt (l : List S72) (b : Int) : Int := (rd_T72 l b).f1
/-- Block i is in its place. -/
def okB (l : List S72) (i : Nat) : Bool := if i = 0 then decide (par l 0 = -1) && decide (slt l 0 = 0) else inn (par l i) 0 ((i : Int) - 1) && inn (slt l i) (slt l (par l i) + 1) 4000
def okFrom (l : List S72) : Nat → Nat → Bool
  | _, 0 => true
  | i, d + 1 => okB l i && okFrom l (i + 1) d
def good (l : List S72) : Bool := inn (l.length : Int) 1 24 && okFrom l 0 l.length
theorem okFrom_iff (l : List S72) : ∀ d i, okFrom l i d = true ↔ ∀ j, i ≤ j → j < i + d → okB l j = true := by
  intro d
  induction d with
  | zero => intro i; simp only [okFrom, true_iff]; intro j h1 h2; omega
  | succ d ih =>
    intro i
    simp only [okFrom, Bool.and_eq_true, ih]
    constructor
    · rintro ⟨h1, h3⟩ j hj hj2
      by_cases e : j = i
      · subst e; exact h1
      · exact h3 j (by omega) (by omega)
    · intro h
      exact ⟨h i (Nat.le_refl _) (by omega), fun j hj hj2 => h j (by omega) (by omega)⟩
theorem okB_zero {l : List S72} : okB l 0 = true ↔ par l 0 = -1 ∧ slt l 0 = 0 := by simp [okB]
theorem okB_pos {l : List S72} {i : Nat} (h : i ≠ 0) : okB l i = true ↔ (0 ≤ par l i ∧ par l i ≤ (i : Int) - 1) ∧ slt l (par l i) + 1 ≤ slt l i ∧ slt l i ≤ 4000 := by
  simp only [okB, if_neg h, Bool.and_eq_true, inn_t]
/-- What is in its place has a slot from 0 to 4000. -/
theorem okB_slot (l : List S72) (n : Nat) (h : ∀ j, j < n → okB l j = true) : ∀ j, j < n → 0 ≤ slt l j ∧ slt l j ≤ 4000 := by
  intro j
  induction j using Nat.strongRecOn with
  | _ j ih =>
    intro hj
    have h1 := h j hj
    by_cases e : j = 0
    · subst e
      have h2 := (okB_zero.1 h1).2
      have e0 : ((0 : Nat) : Int) = 0 := rfl
      rw [e0]; omega
    · have h2 := (okB_pos e).1 h1
      have h3 := ih (par l j).toNat (by omega) (by omega)
      rw [show (((par l j).toNat : Nat) : Int) = par l j by omega] at h3
      omega
theorem good_len {l : List S72} (h : good l = true) : 1 ≤ l.length ∧ l.length ≤ 24 := by
  simp only [good, Bool.and_eq_true, inn_t] at h
  omega
theorem good_ok {l : List S72} (h : good l = true) : ∀ j, j < l.length → okB l j = true := by
  simp only [good, Bool.and_eq_true, okFrom_iff] at h
  exact fun j hj => h.2 j (by omega) (by omega)
theorem good_root {l : List S72} (h : good l = true) : par l 0 = -1 ∧ slt l 0 = 0 := okB_zero.1 (good_ok h 0 (by have := good_len h; omega))
theorem good_pos {l : List S72} (h : good l = true) {b : Int} (h0 : 0 < b) (h1 : b < l.length) : 0 ≤ par l b ∧ par l b < b ∧ slt l (par l b) < slt l b ∧ slt l b ≤ 4000 := by
  have h2 := (okB_pos (l := l) (i := b.toNat) (by omega)).1 (good_ok h _ (by omega))
  rw [show ((b.toNat : Nat) : Int) = b by omega] at h2
  omega
theorem good_slot {l : List S72} (h : good l = true) {b : Int} (h0 : 0 ≤ b) (h1 : b < l.length) : 0 ≤ slt l b ∧ slt l b ≤ 4000 := by
  have := okB_slot l l.length (good_ok h) b.toNat (by omega)
  rwa [show ((b.toNat : Nat) : Int) = b by omega] at this
theorem good_par {l : List S72} (h : good l = true) {b : Int} (h0 : 0 ≤ b) (h1 : b < l.length) : -1 ≤ par l b ∧ par l b < b := by
  by_cases e : b = 0
  · subst e; rw [(good_root h).1]; omega
  · have := good_pos h (b := b) (by omega) h1; omega
def there (l : List S72) (b : Int) : Bool := good l && decide (0 ≤ b ∧ b < l.length)
theorem there_iff {l : List S72} {b : Int} : there l b = true ↔ good l = true ∧ 0 ≤ b ∧ b < l.length := by simp [there]
theorem GoodTreeS_l0 (l : List S72) (hn : l.length ≤ 100000000000000) (d : Nat) : ∀ (k i : Nat), (∀ j, j < i → okB l j = true) → i + d = l.length → d < k → spec_GoodTree.l0 k l l (l.length : Int) i = some (okFrom l i d && inn (l.length : Int) 1 24) := by
  induction d with
  | zero =>
    intro k i _ hi' hk
    obtain ⟨k, rfl⟩ := step_k hk
    simp only [spec_GoodTree.l0, l1In_f, Option.bind_some]; rw [if_neg (by omega)]; simp [okFrom]
  | succ d ih =>
    intro k i hok hi' hk
    obtain ⟨k, rfl⟩ := step_k hk
    have next : okB l i = true → spec_GoodTree.l0 k l l (l.length : Int) ((i + 1 : Nat) : Int) = some (okFrom l (i + 1) d && inn (l.length : Int) 1 24) := fun h => ih k (i + 1) (fun j hj => by
      by_cases e : j = i
      · subst e; exact h
      · exact hok j (by omega)) (by omega) (by omega)
    simp only [spec_GoodTree.l0, l1In_f, Option.bind_some]
    rw [if_pos (by omega), if_pos (by omega), if_pos (by omega), w64s (by omega)]
    by_cases e : i = 0
    · subst e
      rw [if_pos (by omega)]
      by_cases h1 : par l 0 = -1
      · rw [if_pos (show (rd_T72 l ((0 : Nat) : Int)).f0 = -1 from h1)]
        by_cases h2 : slt l 0 = 0
        · rw [if_pos (show (rd_T72 l ((0 : Nat) : Int)).f1 = 0 from h2), next (okB_zero.2 ⟨h1, h2⟩)]
          simp [okFrom, okB_zero.2 ⟨h1, h2⟩]
        · rw [if_neg (show ¬ (rd_T72 l ((0 : Nat) : Int)).f1 = 0 from h2)]
          have : okB l 0 = false := by rw [Bool.eq_false_iff]; intro h; exact h2 (okB_zero.1 h).2
          simp [okFrom, this]
      · rw [if_neg (show ¬ (rd_T72 l ((0 : Nat) : Int)).f0 = -1 from h1)]
        have : okB l 0 = false := by rw [Bool.eq_false_iff]; intro h; exact h1 (okB_zero.1 h).1
        simp [okFrom, this]
    · rw [if_neg (by omega), w64 (n := (i : Int) - 1) (by omega) (by omega)]
      show (if inn (par l i) 0 ((i : Int) - 1) = true then _ else _) = _
      by_cases h1 : inn (par l i) 0 ((i : Int) - 1) = true
      · rw [if_pos h1]
        have h1' := inn_t.1 h1
        have hp := okB_slot l i hok (par l i).toNat (by omega)
        rw [show (((par l i).toNat : Nat) : Int) = par l i by omega] at hp
        show (if inn (slt l i) 1 4000 = true then (if 0 ≤ par l i then (if par l i < (l.length : Int) then (if slt l i ≤ slt l (par l i) then _ else _) else _) else _) else _) = _
        by_cases h2 : inn (slt l i) (slt l (par l i) + 1) 4000 = true
        · have h2' := inn_t.1 h2
          rw [if_pos (inn_t.2 ⟨by omega, h2'.2⟩), if_pos h1'.1, if_pos (by omega), if_neg (by omega), next ((okB_pos e).2 ⟨h1', h2'⟩)]
          simp [okFrom, (okB_pos e).2 ⟨h1', h2'⟩]
        · have hb : okB l i = false := by
            rw [Bool.eq_false_iff]; intro h; exact h2 (inn_t.2 ((okB_pos e).1 h).2)
          have h2' := inn_f.1 (Bool.eq_false_iff.2 h2)
          simp only [okFrom, hb, Bool.false_and]
          by_cases h3 : inn (slt l i) 1 4000 = true
          · have h3' := inn_t.1 h3
            rw [if_pos h3, if_pos h1'.1, if_pos (by omega), if_pos (by omega)]
          · rw [if_neg h3]
      · rw [if_neg h1]
        have hb : okB l i = false := by
          rw [Bool.eq_false_iff]; intro h; exact h1 (inn_t.2 ((okB_pos e).1 h).1)
        simp [okFrom, hb]
theorem GoodTreeS_f {k : Nat} {l : List S72} (hn : l.length ≤ 100000000000000) (hk : l.length < k) : spec_GoodTree.f k l = some (good l) := by
  unfold spec_GoodTree.f good
  rw [show (0 : Int) = ((0 : Nat) : Int) from rfl, GoodTreeS_l0 l hn l.length k 0 (fun j hj => by omega) (by omega) hk, Bool.and_comm]
theorem drop1 (l : List S72) (i : Nat) : rd_T72 (l.drop 1) (i : Int) = rd_T72 l ((i + 1 : Nat) : Int) := by
  simp [rd_T72, List.getD_eq_getElem?_getD, List.getElem?_drop, Nat.add_comm]
theorem isTree_l0 (l : List S72) (hn : l.length ≤ 100000000000000) (d : Nat) : ∀ (k i : Nat), (∀ j, j < i + 1 → okB l j = true) → i + 1 + d = l.length → d < k → impl_isTree.l0 k l (l.drop 1) (((l.drop 1).length : Nat) : Int) i = some (okFrom l (i + 1) d) := by
  induction d with
  | zero =>
    intro k i _ hi' hk
    obtain ⟨k, rfl⟩ := step_k hk
    simp only [impl_isTree.l0]; rw [if_neg (by simp; omega)]; simp [okFrom]
  | succ d ih =>
    intro k i hok hi' hk
    obtain ⟨k, rfl⟩ := step_k hk
    have hlen : (l.drop 1).length = l.length - 1 := by simp
    simp only [impl_isTree.l0, within_f, Option.bind_some]
    rw [if_pos (by rw [hlen]; omega), if_pos (by omega), if_pos (by rw [hlen]; omega), w64s (by omega), drop1]
    show (if inn (par l ((i + 1 : Nat) : Int)) 0 (i : Int) = true then (if 0 ≤ par l ((i + 1 : Nat) : Int) then (if par l ((i + 1 : Nat) : Int) < (l.length : Int) then (if inn (slt l ((i + 1 : Nat) : Int)) (wrap64 (slt l (par l ((i + 1 : Nat) : Int)) + 1)) 4000 = true then _ else _) else _) else _) else _) = _
    by_cases h1 : inn (par l ((i + 1 : Nat) : Int)) 0 (i : Int) = true
    · rw [if_pos h1]
      have h1' := inn_t.1 h1
      have hp := okB_slot l (i + 1) hok (par l ((i + 1 : Nat) : Int)).toNat (by omega)
      rw [show (((par l ((i + 1 : Nat) : Int)).toNat : Nat) : Int) = par l ((i + 1 : Nat) : Int) by omega] at hp
      rw [if_pos h1'.1, if_pos (by omega), w64 (by omega) (by omega)]
      by_cases h2 : inn (slt l ((i + 1 : Nat) : Int)) (slt l (par l ((i + 1 : Nat) : Int)) + 1) 4000 = true
      · have hb : okB l (i + 1) = true := (okB_pos (by omega)).2 ⟨⟨h1'.1, by omega⟩, inn_t.1 h2⟩
        rw [if_pos h2, ih k (i + 1) (fun j hj => by
          by_cases e : j = i + 1
          · subst e; exact hb
          · exact hok j (by omega)) (by omega) (by omega)]
        simp [okFrom, hb]
      · have hb : okB l (i + 1) = false := by
          rw [Bool.eq_false_iff]; intro h; exact h2 (inn_t.2 ((okB_pos (by omega)).1 h).2)
        rw [if_neg h2]; simp [okFrom, hb]
    · have hb : okB l (i + 1) = false := by
        rw [Bool.eq_false_iff]; intro h
        have h3 := ((okB_pos (by omega)).1 h).1
        exact h1 (inn_t.2 ⟨h3.1, by omega⟩)
      rw [if_neg h1]; simp [okFrom, hb]
theorem isTree_f {k : Nat} {l : List S72} (hn : l.length ≤ 100000000000000) (hk : 30 < k) : impl_isTree.f k l = some (good l) := by
  obtain ⟨k, rfl⟩ := step_k hk
  unfold impl_isTree.f
  simp only [within_f, Option.bind_some]
  by_cases h0 : inn (l.length : Int) 1 24 = true
  · have h0' := inn_t.1 h0
    rw [if_pos h0, if_pos (by omega)]
    by_cases h : okB l 0 = true
    · have h' := okB_zero.1 h
      have e1 : (rd_T72 l 0).f0 = -1 := h'.1
      have e2 : (rd_T72 l 0).f1 = 0 := h'.2
      simp only [e1, e2, impl_isTree.j0]
      rw [if_neg (by simp), if_pos (by omega)]
      simp only [Option.bind_some]
      rw [show (0 : Int) = ((0 : Nat) : Int) from rfl, isTree_l0 l hn (l.length - 1) k 0 (fun j hj => by obtain rfl : j = 0 := by omega
                                                                                                         exact h) (by omega) (by omega)]
      congr 1
      have e3 : l.length = (l.length - 1) + 1 := by omega
      unfold good
      rw [h0, Bool.true_and, e3]
      simp only [okFrom, h, Bool.true_and, Nat.add_sub_cancel]
    · have hc : (!((rd_T72 l 0).f0 == -1) || !((rd_T72 l 0).f1 == 0)) = true := by
        by_cases e : (rd_T72 l 0).f0 = -1
        · by_cases e2 : (rd_T72 l 0).f1 = 0
          · exact absurd (okB_zero.2 ⟨e, e2⟩) h
          · simp [e2]
        · simp [e]
      rw [hc]
      simp only [impl_isTree.j0, if_true]
      have e3 : l.length = (l.length - 1) + 1 := by omega
      unfold good
      rw [e3]
      simp [okFrom, Bool.eq_false_iff.2 h]
  · rw [if_neg h0]
    simp only [impl_isTree.j0, if_true]
    simp [good, Bool.eq_false_iff.2 h0]
theorem l3There_f {k : Nat} {l : List S72} {b : Int} (hn : l.length ≤ 100000000000000) (hk : l.length < k) : spec_l3There.f k l b = some (there l b) := by
  unfold spec_l3There.f there
  simp (disch := omega) only [GoodTreeS_f, Option.bind_some]
  by_cases h : good l = true
  · rw [if_pos h]
    by_cases h2 : b ≥ 0
    · rw [if_pos h2]; simp [h, show 0 ≤ b from h2]
    · rw [if_neg h2]; simp [show ¬ 0 ≤ b from h2]
  · rw [if_neg h]; simp [h]
theorem isBlockOf_f {k : Nat} {l : List S72} {b : Int} (hn : l.length ≤ 100000000000000) (hk : 30 < k) : impl_isBlockOf.f k l b = some (there l b) := by
  unfold impl_isBlockOf.f there
  simp (disch := omega) only [isTree_f, within_f, Option.bind_some]
  by_cases h : good l = true
  · rw [if_pos h, w64 (n := (l.length : Int) - 1) (by omega) (by omega)]
    congr 1
    rw [h, Bool.true_and]
    unfold inn
    congr 1
    apply propext
    omega
  · rw [if_neg h]; simp [h]
def cvB (x : S74) : S72 := ⟨x.f0, x.f1⟩
theorem rdLB_get (l : List S74) (i : Nat) (h : i < l.length) : l[i]? = some (rd_T74 l (i : Int)) := by
  simp [rd_T74, List.getD_eq_getElem?_getD, List.getElem?_eq_getElem h]
theorem toBlockS_l0 (l : List S74) (hn : l.length ≤ 100000000000000) (d : Nat) : ∀ (k : Nat) (x : List S72) (i : Nat), x.length = l.length → i + d = l.length → d < k → (∀ j, j < i → x[j]? = (l.map cvB)[j]?) →
    laws_toBlockS.l0 k l x i = some (l.map cvB) := by
  induction d with
  | zero =>
    intro k x i hx hi hk hp
    obtain ⟨k, rfl⟩ := step_k hk
    simp only [laws_toBlockS.l0]; rw [if_neg (by omega)]
    congr 1
    apply List.ext_getElem?
    intro j
    by_cases h : j < i
    · exact hp j h
    · rw [List.getElem?_eq_none (by omega), List.getElem?_eq_none (by simp; omega)]
  | succ d ih =>
    intro k x i hx hi hk hp
    obtain ⟨k, rfl⟩ := step_k hk
    simp only [laws_toBlockS.l0, laws_toBlock.f, Option.bind_some]
    rw [if_pos (by omega), if_pos (by omega), if_pos (by omega), w64s (by omega)]
    refine ih k _ (i + 1) (by simpa using hx) (by omega) (by omega) ?_
    intro j hj
    rw [Int.toNat_natCast, List.getElem?_set]
    by_cases h : i = j
    · subst h
      rw [if_pos rfl, if_pos (by omega), List.getElem?_map, rdLB_get l i (by omega)]; rfl
    · rw [if_neg h]; exact hp j (by omega)
theorem toBlockS_f {k : Nat} {l : List S74} (hn : l.length ≤ 17592186044416) (hk : l.length < k) : laws_toBlockS.f k l = some (l.map cvB) := by
  unfold laws_toBlockS.f
  rw [if_pos (by omega), if_pos (by omega)]
  exact toBlockS_l0 l (by omega) l.length k _ 0 (by simp) (by omega) hk (by intro j hj; omega)
theorem szBlockS_f {l : List S74} {left : Int} (hn : l.length ≤ 100000000000000) (h0 : 0 ≤ left) (h1 : left ≤ 100000000000) : laws_szBlockS.f l left = some (if left < l.length then -1 else left - l.length) := by
  unfold laws_szBlockS.f
  rw [w64 (n := left - (l.length : Int)) (by omega) (by omega)]
  by_cases h : left < l.length
  · rw [if_pos (by omega), if_pos h]
  · rw [if_neg (by omega), if_neg h]
theorem eqBlockS_l0 (l : List S72) (hn : l.length ≤ 100000000000000) (d : Nat) : ∀ (k i : Nat), i + d = l.length → d < k → laws_eqBlockS.l0 k l l i = some true := by
  induction d with
  | zero =>
    intro k i hi hk
    obtain ⟨k, rfl⟩ := step_k hk
    simp only [laws_eqBlockS.l0]; rw [if_neg (by omega)]
  | succ d ih =>
    intro k i hi hk
    obtain ⟨k, rfl⟩ := step_k hk
    simp only [laws_eqBlockS.l0, laws_eqBlock.f, if_true, Option.bind_some]
    rw [if_pos (by omega), if_pos (by omega), if_pos (by omega), w64s (by omega)]
    exact ih k (i + 1) (by omega) (by omega)
theorem eqBlockS_f {k : Nat} {l : List S72} (hn : l.length ≤ 100000000000000) (hk : l.length < k) : laws_eqBlockS.f k l l = some true := by
  unfold laws_eqBlockS.f
  rw [if_pos rfl]
  exact eqBlockS_l0 l hn l.length k 0 (by omega) hk
/-- The path from block 0 to a block. -/
def wayF (l : List S72) : Nat → Int → List Int
  | 0, _ => []
  | n + 1, b => if b < 0 then [] else wayF l n (par l b) ++ [b]
theorem wayF_more {l : List S72} (h : good l = true) : ∀ (n : Nat) (b : Int), b < l.length → b < n → ∀ m : Nat, n ≤ m → wayF l m b = wayF l n b := by
  intro n
  induction n with
  | zero =>
    intro b _ hb m _
    cases m with
    | zero => rfl
    | succ m => simp only [wayF]; rw [if_pos (by omega)]
  | succ n ih =>
    intro b hl hb m hm
    obtain ⟨m, rfl⟩ : ∃ q, m = q + 1 := ⟨m - 1, by omega⟩
    simp only [wayF]
    by_cases h0 : b < 0
    · rw [if_pos h0, if_pos h0]
    · rw [if_neg h0, if_neg h0]
      have := good_par h (b := b) (by omega) hl
      rw [ih (par l b) (by omega) (by omega) m (by omega)]
def way (l : List S72) (b : Int) : List Int := wayF l (b.toNat + 1) b
theorem way_neg (l : List S72) {b : Int} (h : b < 0) : way l b = [] := by
  unfold way wayF; rw [if_pos h]
theorem way_pos {l : List S72} (h : good l = true) {b : Int} (h0 : 0 ≤ b) (h1 : b < l.length) : way l b = way l (par l b) ++ [b] := by
  unfold way
  have := good_par h h0 h1
  show (if b < 0 then [] else wayF l b.toNat (par l b) ++ [b]) = _
  rw [if_neg (by omega)]
  congr 1
  by_cases e : par l b < 0
  · cases hb : b.toNat with
    | zero => simp [wayF, e]
    | succ n => simp [wayF, e]
  · exact wayF_more h _ _ (by omega) (by omega) _ (by omega)
/-- Induction along the path. -/
theorem way_ind {l : List S72} (h : good l = true) (P : Int → Prop) (hneg : P (-1)) (hpos : ∀ b : Int, 0 ≤ b → b < l.length → P (par l b) → P b) : ∀ b : Int, -1 ≤ b → b < l.length → P b := by
  have key : ∀ (n : Nat) (b : Int), b < n → -1 ≤ b → b < l.length → P b := by
    intro n
    induction n with
    | zero => intro b hb hb1 _; rw [show b = -1 by omega]; exact hneg
    | succ n ih =>
      intro b hb hb1 hl
      by_cases e : b = -1
      · rw [e]; exact hneg
      · have := good_par h (b := b) (by omega) hl
        exact hpos b (by omega) hl (ih _ (by omega) (by omega) (by omega))
  intro b h1 h2
  exact key (b + 1).toNat b (by omega) h1 h2
theorem way_len {l : List S72} (h : good l = true) : ∀ b : Int, -1 ≤ b → b < l.length → ((way l b).length : Int) ≤ b + 1 := by
  refine way_ind h _ (by rw [way_neg l (by omega)]; simp) fun b h0 h1 ih => ?_
  have := good_par h h0 h1
  rw [way_pos h h0 h1, List.length_append, List.length_singleton]
  omega
theorem way_nonempty {l : List S72} (h : good l = true) {b : Int} (h0 : 0 ≤ b) (h1 : b < l.length) : 1 ≤ (way l b).length := by
  rw [way_pos h h0 h1]; simp
theorem way_mem_le {l : List S72} (h : good l = true) : ∀ b : Int, -1 ≤ b → b < l.length → ∀ x ∈ way l b, 0 ≤ x ∧ x ≤ b := by
  refine way_ind h _ (by rw [way_neg l (by omega)]; simp) fun b h0 h1 ih => ?_
  intro x hx
  rw [way_pos h h0 h1, List.mem_append, List.mem_singleton] at hx
  have := good_par h h0 h1
  rcases hx with hx | hx
  · have := ih x hx; omega
  · omega
/-- A block is above another one, step by step. -/
def above (l : List S72) (a b : Int) : Bool := decide (a ∈ way l b)
theorem above_self {l : List S72} (h : good l = true) {b : Int} (h0 : 0 ≤ b) (h1 : b < l.length) : above l b b = true := by
  unfold above; rw [way_pos h h0 h1]; simp
theorem above_step {l : List S72} (h : good l = true) {a b : Int} (h0 : 0 ≤ b) (h1 : b < l.length) (hne : a ≠ b) : above l a b = above l a (par l b) := by
  unfold above; rw [way_pos h h0 h1]; simp [hne]
theorem above_gt {l : List S72} (h : good l = true) {a b : Int} (h0 : -1 ≤ b) (h1 : b < l.length) (hlt : b < a) : above l a b = false := by
  unfold above
  rw [decide_eq_false_iff_not]
  intro hm
  have := way_mem_le h b h0 h1 a hm
  omega
def kidsFrom (l : List S72) (b : Int) : Nat → Nat → List Int
  | _, 0 => []
  | i, d + 1 => (if par l i = b then [(i : Int)] else []) ++ kidsFrom l b (i + 1) d
def kids (l : List S72) (b : Int) : List Int := kidsFrom l b 0 l.length
theorem kidsFrom_len (l : List S72) (b : Int) : ∀ d i, (kidsFrom l b i d).length ≤ d := by
  intro d
  induction d with
  | zero => intro i; simp [kidsFrom]
  | succ d ih => intro i; have := ih (i + 1); simp only [kidsFrom, List.length_append]; split <;> simp <;> omega
theorem kids_len (l : List S72) (b : Int) : (kids l b).length ≤ l.length := kidsFrom_len l b _ _
theorem kidsFrom_mem (l : List S72) (b : Int) : ∀ d i x, x ∈ kidsFrom l b i d ↔ (i : Int) ≤ x ∧ x < (i : Int) + d ∧ par l x = b := by
  intro d
  induction d with
  | zero => intro i x; simp [kidsFrom]; omega
  | succ d ih =>
    intro i x
    simp only [kidsFrom, List.mem_append, ih]
    constructor
    · rintro (h | h)
      · split at h
        · rename_i hp; simp only [List.mem_singleton] at h; subst h; exact ⟨by omega, by omega, hp⟩
        · simp at h
      · exact ⟨by omega, by omega, h.2.2⟩
    · rintro ⟨h1, h2, h3⟩
      by_cases e : x = (i : Int)
      · left; subst e; rw [if_pos h3]; simp
      · right; exact ⟨by omega, by omega, h3⟩
theorem kids_mem {l : List S72} {b x : Int} : x ∈ kids l b ↔ 0 ≤ x ∧ x < l.length ∧ par l x = b := by
  unfold kids; rw [kidsFrom_mem]; simp
theorem kidsFrom_sorted (l : List S72) (b : Int) : ∀ d i, (kidsFrom l b i d).Pairwise (· < ·) := by
  intro d
  induction d with
  | zero => intro i; simp [kidsFrom]
  | succ d ih =>
    intro i
    simp only [kidsFrom]
    split
    · rw [List.singleton_append, List.pairwise_cons]
      refine ⟨fun x hx => ?_, ih (i + 1)⟩
      have := (kidsFrom_mem l b d (i + 1) x).1 hx
      omega
    · simpa using ih (i + 1)
theorem l4Children_l0 (l : List S72) (b : Int) (hz : par l 0 ≠ b) (hn : l.length ≤ 1000000000) (d : Nat) : ∀ (k i : Nat) (acc : List Int), acc.length ≤ i → i + d = l.length → d < k → spec_l4Children.l0 k b acc l (l.length : Int) i = some (acc ++ kidsFrom l b i d) := by
  induction d with
  | zero =>
    intro k i acc hacc hi' hk
    obtain ⟨k, rfl⟩ := step_k hk
    simp only [spec_l4Children.l0]; rw [if_neg (by omega)]; simp [kidsFrom]
  | succ d ih =>
    intro k i acc hacc hi' hk
    obtain ⟨k, rfl⟩ := step_k hk
    simp only [spec_l4Children.l0]
    rw [if_pos (by omega), if_pos (by omega), if_pos (by omega), w64s (by omega)]
    simp only [kidsFrom]
    show (if par l i = b then _ else _) = _
    by_cases h : par l i = b
    · have hi : i ≠ 0 := by intro e; subst e; exact hz h
      rw [if_pos h, if_pos (by omega), if_pos (by omega), ih k (i + 1) _ (by simp; omega) (by omega) (by omega), if_pos h]; simp
    · rw [if_neg h, ih k (i + 1) _ (by omega) (by omega) (by omega), if_neg h]; simp
theorem l4Children_f {k : Nat} {l : List S72} {b : Int} (hz : par l 0 ≠ b) (hn : l.length ≤ 1000000000) (hk : l.length < k) : spec_l4Children.f k l b = some (kids l b) := by
  unfold spec_l4Children.f
  have := l4Children_l0 l b hz hn l.length k 0 [] (by simp) (by omega) hk
  simpa [kids] using this
theorem childrenOf_l0 (l : List S72) (b : Int) (hn : l.length ≤ 1000000000) (d : Nat) : ∀ (k i : Nat) (acc : List Int), acc.length ≤ i → i + d = l.length → d < k → impl_childrenOf.l0 k b acc l (l.length : Int) i = some (acc ++ kidsFrom l b i d) := by
  induction d with
  | zero =>
    intro k i acc hacc hi' hk
    obtain ⟨k, rfl⟩ := step_k hk
    simp only [impl_childrenOf.l0]; rw [if_neg (by omega)]; simp [kidsFrom]
  | succ d ih =>
    intro k i acc hacc hi' hk
    obtain ⟨k, rfl⟩ := step_k hk
    simp only [impl_childrenOf.l0]
    rw [if_pos (by omega), if_pos (by omega), if_pos (by omega), w64s (by omega)]
    simp only [kidsFrom]
    show (if par l i = b then _ else _) = _
    by_cases h : par l i = b
    · rw [if_pos h, if_pos (by omega), ih k (i + 1) _ (by simp; omega) (by omega) (by omega), if_pos h]; simp
    · rw [if_neg h, ih k (i + 1) _ (by omega) (by omega) (by omega), if_neg h]; simp
theorem childrenOf_f {k : Nat} {l : List S72} {b : Int} (hn : l.length ≤ 1000000000) (hk : l.length < k) : impl_childrenOf.f k l b = some (kids l b) := by
  unfold impl_childrenOf.f
  have := childrenOf_l0 l b hn l.length k 0 [] (by simp) (by omega) hk
  simpa [kids] using this
theorem above_le {l : List S72} (h : good l = true) {a b : Int} (h0 : -1 ≤ b) (h1 : b < l.length) (hab : above l a b = true) : 0 ≤ a ∧ a ≤ b := way_mem_le h b h0 h1 a (of_decide_eq_true hab)
def ordF (l : List S72) : Nat → Int → List Int
  | 0, _ => []
  | n + 1, b => b :: (kids l b).flatMap (ordF l n)
theorem kid_gt {l : List S72} (h : good l = true) {b c : Int} (hc : c ∈ kids l b) : b < c ∧ 0 ≤ c ∧ c < l.length ∧ par l c = b := by
  have h1 := kids_mem.1 hc
  have := good_par h h1.1 h1.2.1
  omega
theorem flatMap_congr' {f g : Int → List Int} {xs : List Int} (h : ∀ x ∈ xs, f x = g x) : xs.flatMap f = xs.flatMap g := by
  rw [List.flatMap_def, List.flatMap_def, List.map_congr_left h]
theorem ordF_more {l : List S72} (h : good l = true) : ∀ (n : Nat) (b : Int), 0 ≤ b → b < l.length → (l.length : Int) - b ≤ n → ∀ m : Nat, n ≤ m → ordF l m b = ordF l n b := by
  intro n
  induction n with
  | zero => intro b _ hb hn; omega
  | succ n ih =>
    intro b h0 hb hn m hm
    obtain ⟨m, rfl⟩ : ∃ q, m = q + 1 := ⟨m - 1, by omega⟩
    simp only [ordF]
    congr 1
    exact flatMap_congr' fun c hc => by
      have := kid_gt h hc
      exact ih c (by omega) (by omega) (by omega) m (by omega)
/-- The preorder of the subtree of a block. -/
def ord (l : List S72) (b : Int) : List Int := ordF l l.length b
theorem ord_eq {l : List S72} (h : good l = true) {b : Int} (h0 : 0 ≤ b) (h1 : b < l.length) : ord l b = b :: (kids l b).flatMap (ord l) := by
  unfold ord
  obtain ⟨n, hn⟩ : ∃ n, l.length = n + 1 := ⟨l.length - 1, by omega⟩
  have e : ordF l l.length b = b :: (kids l b).flatMap (ordF l n) := by rw [hn]; rfl
  rw [e]
  congr 1
  exact flatMap_congr' fun c hc => by
    have := kid_gt h hc
    exact (ordF_more h n c (by omega) (by omega) (by omega) l.length (by omega)).symm
/-- Induction from the leaves. -/
theorem kid_ind {l : List S72} (h : good l = true) (P : Int → Prop) (step : ∀ b : Int, 0 ≤ b → b < l.length → (∀ c ∈ kids l b, P c) → P b) : ∀ b : Int, 0 ≤ b → b < l.length → P b := by
  have key : ∀ (n : Nat) (b : Int), 0 ≤ b → b < l.length → (l.length : Int) - b ≤ n → P b := by
    intro n
    induction n with
    | zero => intro b _ hb hn; omega
    | succ n ih =>
      intro b h0 hb hn
      refine step b h0 hb fun c hc => ?_
      have := kid_gt h hc
      exact ih c (by omega) (by omega) (by omega)
  intro b h0 h1
  exact key l.length b h0 h1 (by omega)
theorem above_trans {l : List S72} (h : good l = true) {a b : Int} (hab : above l a b = true) : ∀ x : Int, -1 ≤ x → x < l.length → above l b x = true → above l a x = true := by
  refine way_ind h _ (by intro hb; unfold above at hb; rw [way_neg l (by omega)] at hb; simp at hb) fun x h0 h1 ih => ?_
  intro hb
  by_cases e : b = x
  · subst e; exact hab
  · rw [above_step h h0 h1 e] at hb
    have := ih hb
    by_cases e2 : a = x
    · subst e2; exact above_self h h0 h1
    · rw [above_step h h0 h1 e2]; exact this
/-- Below b is b itself, and what is below a child of b. -/
theorem above_kid {l : List S72} (h : good l = true) {b : Int} (hb : 0 ≤ b) : ∀ x : Int, -1 ≤ x → x < l.length → 0 ≤ x → (above l b x = true ↔ x = b ∨ ∃ c ∈ kids l b, above l c x = true) := by
  refine way_ind h _ (by intro h; omega) fun x h0 h1 ih => ?_
  intro _
  have hp := good_par h h0 h1
  constructor
  · intro ha
    by_cases e : b = x
    · exact .inl e.symm
    · right
      rw [above_step h h0 h1 e] at ha
      by_cases e2 : par l x = b
      · exact ⟨x, kids_mem.2 ⟨h0, h1, e2⟩, above_self h h0 h1⟩
      · have hp0 : 0 ≤ par l x := by
          by_cases e3 : par l x = -1
          · rw [e3] at ha; unfold above at ha; rw [way_neg l (by omega)] at ha; simp at ha
          · omega
        rcases (ih hp0).1 ha with h2 | ⟨c, hc, h2⟩
        · exact absurd h2 e2
        · refine ⟨c, hc, ?_⟩
          by_cases e3 : c = x
          · subst e3; exact above_self h h0 h1
          · rw [above_step h h0 h1 e3]; exact h2
  · rintro (e | ⟨c, hc, h2⟩)
    · subst e; exact above_self h h0 h1
    · have h3 := kid_gt h hc
      have hbc : above l b c = true := by
        rw [above_step h h3.2.1 h3.2.2.1 (by omega), h3.2.2.2]
        exact above_self h hb (by omega)
      exact above_trans h hbc x (by omega) h1 h2
theorem ord_mem {l : List S72} (h : good l = true) : ∀ b : Int, 0 ≤ b → b < l.length → ∀ x, x ∈ ord l b ↔ 0 ≤ x ∧ x < l.length ∧ above l b x = true := by
  refine kid_ind h _ fun b h0 h1 ih => ?_
  intro x
  rw [ord_eq h h0 h1, List.mem_cons, List.mem_flatMap]
  constructor
  · rintro (e | ⟨c, hc, hx⟩)
    · subst e; exact ⟨h0, h1, above_self h h0 h1⟩
    · have h2 := (ih c hc x).1 hx
      exact ⟨h2.1, h2.2.1, (above_kid h h0 x (by omega) h2.2.1 h2.1).2 (.inr ⟨c, hc, h2.2.2⟩)⟩
  · rintro ⟨hx0, hx1, hx⟩
    rcases (above_kid h h0 x (by omega) hx1 hx0).1 hx with e | ⟨c, hc, h2⟩
    · exact .inl e
    · exact .inr ⟨c, hc, (ih c hc x).2 ⟨hx0, hx1, h2⟩⟩
/-- Two blocks above one block: the one is above the other. -/
theorem above_two {l : List S72} (h : good l = true) {a b : Int} (hab : a < b) : ∀ x : Int, -1 ≤ x → x < l.length → above l a x = true → above l b x = true → above l a b = true := by
  refine way_ind h _ (by intro hb; unfold above at hb; rw [way_neg l (by omega)] at hb; simp at hb) fun x h0 h1 ih => ?_
  intro ha hb
  have hp := good_par h h0 h1
  by_cases e : b = x
  · subst e; exact ha
  · rw [above_step h h0 h1 e] at hb
    have hle := above_le h hp.1 (by omega) hb
    rw [above_step h h0 h1 (by omega)] at ha
    exact ih ha hb
theorem ord_nodup {l : List S72} (h : good l = true) : ∀ b : Int, 0 ≤ b → b < l.length → (ord l b).Nodup := by
  refine kid_ind h _ fun b h0 h1 ih => ?_
  rw [ord_eq h h0 h1, List.nodup_cons]
  refine ⟨?_, ?_⟩
  · rw [List.mem_flatMap]
    rintro ⟨c, hc, hx⟩
    have h3 := kid_gt h hc
    have h4 := (ord_mem h c h3.2.1 h3.2.2.1 b).1 hx
    have := above_le h (by omega) h1 h4.2.2
    omega
  · refine List.pairwise_flatMap.2 ⟨fun c hc => ih c hc, ?_⟩
    refine List.Pairwise.imp_of_mem (R := fun a b => a < b) ?_ (kidsFrom_sorted l b _ _)
    intro c c' hc hc' hlt x hx y hy e
    subst e
    have h3 := kid_gt h hc
    have h4 := kid_gt h hc'
    have h5 := (ord_mem h c h3.2.1 h3.2.2.1 x).1 hx
    have h6 := (ord_mem h c' h4.2.1 h4.2.2.1 x).1 hy
    have h7 := above_two h hlt x (by omega) h5.2.1 h5.2.2 h6.2.2
    rw [above_step h h4.2.1 h4.2.2.1 (by omega), h4.2.2.2] at h7
    have := above_le h (by omega) h1 h7
    omega
theorem ord_len {l : List S72} (h : good l = true) {b : Int} (h0 : 0 ≤ b) (h1 : b < l.length) : (ord l b).length ≤ l.length := by
  have := (ord_nodup h b h0 h1).length_le_of_subset (l₂ := (List.range l.length).map fun i : Nat => (i : Int)) (fun x hx => by
    have := (ord_mem h b h0 h1 x).1 hx
    exact List.mem_map.2 ⟨x.toNat, List.mem_range.2 (by omega), by omega⟩)
  simpa using this
def Kf (l : List S72) (b : Int) : Nat := ((l.length : Int) - b).toNat * 60 + 60
theorem eqIntS_l0 (l : List Int) (hn : l.length ≤ 100000000000000) (d : Nat) : ∀ (k i : Nat), i + d = l.length → d < k → laws_eqIntS.l0 k l l i = some true := by
  induction d with
  | zero =>
    intro k i hi hk
    obtain ⟨k, rfl⟩ := step_k hk
    simp only [laws_eqIntS.l0]; rw [if_neg (by omega)]
  | succ d ih =>
    intro k i hi hk
    obtain ⟨k, rfl⟩ := step_k hk
    simp only [laws_eqIntS.l0]
    rw [if_pos (by omega), if_pos (by omega), if_pos (by omega), if_true, w64s (by omega)]
    exact ih k (i + 1) (by omega) (by omega)
theorem eqIntS_f {k : Nat} {l : List Int} (hn : l.length ≤ 100000000000000) (hk : l.length < k) : laws_eqIntS.f k l l = some true := by
  unfold laws_eqIntS.f
  rw [if_pos rfl]
  exact eqIntS_l0 l hn l.length k 0 (by omega) hk
def marks (a : Int) (n : Nat) : List Int := (List.range n).map fun i : Nat => a + (i : Int)
theorem marks_len (a : Int) (n : Nat) : (marks a n).length = n := by simp [marks]
theorem marks_rd (a : Int) (n i : Nat) (h : i < n) : rd (marks a n) (i : Int) = a + i := by
  simp [marks, rd, List.getD_eq_getElem?_getD, h]
theorem markIntS_l0 (n : Nat) (hn : n ≤ 100000000000000) (a : Int) (h0 : 0 ≤ a) (ha : a ≤ 100000000000000) (d : Nat) : ∀ (k : Nat) (x : List Int) (i : Nat), x.length = n → i + d = n → d < k → (∀ j, j < i → x[j]? = some (a + (j : Int))) →
    laws_markIntS.l0 k x (a + i) i = some (a + n, marks a n) := by
  induction d with
  | zero =>
    intro k x i hx hi hk hp
    obtain ⟨k, rfl⟩ := step_k hk
    simp only [laws_markIntS.l0]; rw [if_neg (by omega)]
    congr 1
    refine Prod.ext (by simp; omega) ?_
    apply List.ext_getElem?
    intro j
    by_cases h : j < i
    · show x[j]? = _
      rw [hp j h]; simp [marks, show j < n by omega]
    · rw [List.getElem?_eq_none (by simp; omega), List.getElem?_eq_none (by rw [marks_len]; omega)]
  | succ d ih =>
    intro k x i hx hi hk hp
    obtain ⟨k, rfl⟩ := step_k hk
    simp only [laws_markIntS.l0]
    rw [if_pos (by omega), if_pos (by omega), w64s (by omega), w64 (n := a + (i : Int) + 1) (by omega) (by omega), show a + (i : Int) + 1 = a + ((i + 1 : Nat) : Int) by omega]
    refine ih k _ (i + 1) (by simpa using hx) (by omega) (by omega) ?_
    intro j hj
    rw [Int.toNat_natCast, List.getElem?_set]
    by_cases h : i = j
    · subst h
      rw [if_pos rfl, if_pos (by omega)]
    · rw [if_neg h]; exact hp j (by omega)
theorem markIntS_f {k : Nat} {l : List Int} {a : Int} (hn : l.length ≤ 100000000000000) (h0 : 0 ≤ a) (ha : a ≤ 100000000000000) (hk : l.length < k) : laws_markIntS.f k l a = some (a + l.length, marks a l.length) := by
  unfold laws_markIntS.f
  have := markIntS_l0 l.length hn a h0 ha l.length k l 0 rfl (by omega) hk (by intro j hj; omega)
  rw [show a + ((0 : Nat) : Int) = a by omega] at this
  exact this
theorem heldIntS_l0 (n : Nat) (hn : n ≤ 100000000000000) (a : Int) (h0 : 0 ≤ a) (ha : a ≤ 100000000000000) (d : Nat) : ∀ (k i : Nat), i + d = n → d < k → laws_heldIntS.l0 k (marks a n) (a + i) i = some (a + n) := by
  induction d with
  | zero =>
    intro k i hi hk
    obtain ⟨k, rfl⟩ := step_k hk
    simp only [laws_heldIntS.l0]; rw [if_neg (by rw [marks_len]; omega)]
    congr 1; omega
  | succ d ih =>
    intro k i hi hk
    obtain ⟨k, rfl⟩ := step_k hk
    simp only [laws_heldIntS.l0]
    rw [if_pos (by rw [marks_len]; omega), if_pos (by omega), if_pos (marks_rd a n i (by omega)), w64s (by omega), w64 (n := a + (i : Int) + 1) (by omega) (by omega), show a + (i : Int) + 1 = a + ((i + 1 : Nat) : Int) by omega]
    exact ih k (i + 1) (by omega) (by omega)
theorem heldIntS_f {k n : Nat} {a : Int} (hn : n ≤ 100000000000000) (h0 : 0 ≤ a) (ha : a ≤ 100000000000000) (hk : n < k) : laws_heldIntS.f k (marks a n) a = some (a + n) := by
  unfold laws_heldIntS.f
  have := heldIntS_l0 n hn a h0 ha n k 0 (by omega) hk
  rw [show a + ((0 : Nat) : Int) = a by omega] at this
  exact this
def marksB (a : Int) (n : Nat) : List S72 := (List.range n).map fun i : Nat => ⟨a + 2 * (i : Int), a + 2 * (i : Int) + 1⟩
theorem markBlockS_l0 (n : Nat) (hn : n ≤ 100000000000000) (a : Int) (h0 : 0 ≤ a) (ha : a ≤ 100000000000000) (d : Nat) : ∀ (k : Nat) (x : List S72) (i : Nat), x.length = n → i + d = n → d < k → (∀ j, j < i → x[j]? = some ⟨a + 2 * (j : Int), a + 2 * (j : Int) + 1⟩) →
    laws_markBlockS.l0 k x (a + 2 * (i : Int)) i = some (a + 2 * (n : Int), marksB a n) := by
  induction d with
  | zero =>
    intro k x i hx hi hk hp
    obtain ⟨k, rfl⟩ := step_k hk
    simp only [laws_markBlockS.l0]; rw [if_neg (by omega)]
    congr 1
    refine Prod.ext (by simp; omega) ?_
    apply List.ext_getElem?
    intro j
    by_cases h : j < i
    · show x[j]? = _
      rw [hp j h]; simp [marksB, show j < n by omega]
    · rw [List.getElem?_eq_none (by simp; omega), List.getElem?_eq_none (by simp [marksB]; omega)]
  | succ d ih =>
    intro k x i hx hi hk hp
    obtain ⟨k, rfl⟩ := step_k hk
    simp only [laws_markBlockS.l0, Option.bind_some]
    rw [if_pos (by omega), if_pos (by omega), w64s (by omega), w64 (n := a + 2 * (i : Int) + 1) (by omega) (by omega), w64 (n := a + 2 * (i : Int) + 1 + 1) (by omega) (by omega), show a + 2 * (i : Int) + 1 + 1 = a + 2 * ((i + 1 : Nat) : Int) by omega]
    refine ih k _ (i + 1) (by simpa using hx) (by omega) (by omega) ?_
    intro j hj
    rw [Int.toNat_natCast, List.getElem?_set]
    by_cases h : i = j
    · subst h
      rw [if_pos rfl, if_pos (by simp; omega)]
      have e : rd_T72 (x.set i ⟨a + 2 * (i : Int), (rd_T72 x (i : Int)).f1⟩) (i : Int) = ⟨a + 2 * (i : Int), (rd_T72 x (i : Int)).f1⟩ := by
        simp [rd_T72, List.getD_eq_getElem?_getD, List.getElem?_set, show i < x.length by omega]
      rw [e]
    · rw [if_neg h, List.getElem?_set, if_neg h]; exact hp j (by omega)
theorem markBlockS_f {k : Nat} {l : List S72} {a : Int} (hn : l.length ≤ 100000000000000) (h0 : 0 ≤ a) (ha : a ≤ 100000000000000) (hk : l.length < k) : laws_markBlockS.f k l a = some (a + 2 * (l.length : Int), marksB a l.length) := by
  unfold laws_markBlockS.f
  have := markBlockS_l0 l.length hn a h0 ha l.length k l 0 rfl (by omega) hk (by intro j hj; omega)
  rw [show a + 2 * ((0 : Nat) : Int) = a by omega] at this
  exact this
theorem spec_l4Order_l0 {l : List S72} (cs : List Int) (hcs : cs.length ≤ 24) (K : Nat) (hf : ∀ c ∈ cs, ∀ (k : Nat) (acc : List Int), K < k → acc.length + (ord l c).length ≤ 1000000 → spec_l4Order.f k l c acc = some (acc ++ ord l c)) (d : Nat) :
    ∀ (k j : Nat) (acc : List Int), j + d = cs.length → acc.length + ((cs.drop j).flatMap (ord l)).length ≤ 1000000 → d + K < k → spec_l4Order.l0 k l acc cs (cs.length : Int) j = some (acc ++ (cs.drop j).flatMap (ord l)) := by
  induction d with
  | zero =>
    intro k j acc hj hlen hk
    obtain ⟨k, rfl⟩ : ∃ m, k = m + 1 := ⟨k - 1, by omega⟩
    simp only [spec_l4Order.l0]
    rw [if_neg (by omega), List.drop_eq_nil_of_le (by omega)]; simp
  | succ d ih =>
    intro k j acc hj hlen hk
    obtain ⟨k, rfl⟩ : ∃ m, k = m + 1 := ⟨k - 1, by omega⟩
    have e : cs.drop j = rd cs j :: cs.drop (j + 1) := by
      rw [List.drop_eq_getElem_cons (by omega)]
      congr 1
      rw [rd_eq, List.getD_eq_getElem?_getD, List.getElem?_eq_getElem (by omega)]; rfl
    rw [e, List.flatMap_cons, List.length_append] at hlen
    simp only [spec_l4Order.l0]
    rw [if_pos (by omega), if_pos (by omega), if_pos (by omega), hf _ (rd_mem cs j (by omega)) k acc (by omega) (by omega)]
    simp only [Option.bind_some]
    rw [w64s (by omega), ih k (j + 1) _ (by omega) (by rw [List.length_append]; omega) (by omega), e]
    simp
theorem spec_l4Order_f {l : List S72} (h : good l = true) : ∀ b : Int, 0 ≤ b → b < l.length → ∀ (k : Nat) (acc : List Int), Kf l b < k → acc.length + (ord l b).length ≤ 1000000 → spec_l4Order.f k l b acc = some (acc ++ ord l b) := by
  refine kid_ind h _ fun b h0 h1 ih => ?_
  intro k acc hk hlen
  have hg := good_len h
  have hr := good_root h
  have hkl := kids_len l b
  obtain ⟨k, rfl⟩ : ∃ m, k = m + 1 := ⟨k - 1, by omega⟩
  rw [ord_eq h h0 h1, List.length_cons] at hlen
  unfold Kf at hk
  simp only [spec_l4Order.f]
  rw [if_pos (by omega), l4Children_f (by omega) (by omega) (by omega)]
  simp only [Option.bind_some]
  have := spec_l4Order_l0 (l := l) (kids l b) (by omega) (((l.length : Int) - b).toNat * 60) (fun c hc k acc hk hl => by
    have := kid_gt h hc
    exact ih c hc k acc (by unfold Kf; omega) hl) (kids l b).length k 0 (acc ++ [b]) (by omega) (by simp at hlen ⊢; omega) (by omega)
  rw [show ((0 : Nat) : Int) = 0 from rfl] at this
  rw [this, ord_eq h h0 h1]
  simp
theorem impl_orderOf_l0 {l : List S72} (cs : List Int) (hcs : cs.length ≤ 24) (K : Nat) (hf : ∀ c ∈ cs, ∀ (k : Nat) (acc : List Int), K < k → acc.length + (ord l c).length ≤ 1000000 → impl_orderOf.f k l c acc = some (acc ++ ord l c)) (d : Nat) :
    ∀ (k j : Nat) (acc : List Int), j + d = cs.length → acc.length + ((cs.drop j).flatMap (ord l)).length ≤ 1000000 → d + K < k → impl_orderOf.l0 k l acc cs (cs.length : Int) j = some (acc ++ (cs.drop j).flatMap (ord l)) := by
  induction d with
  | zero =>
    intro k j acc hj hlen hk
    obtain ⟨k, rfl⟩ : ∃ m, k = m + 1 := ⟨k - 1, by omega⟩
    simp only [impl_orderOf.l0]
    rw [if_neg (by omega), List.drop_eq_nil_of_le (by omega)]; simp
  | succ d ih =>
    intro k j acc hj hlen hk
    obtain ⟨k, rfl⟩ : ∃ m, k = m + 1 := ⟨k - 1, by omega⟩
    have e : cs.drop j = rd cs j :: cs.drop (j + 1) := by
      rw [List.drop_eq_getElem_cons (by omega)]
      congr 1
      rw [rd_eq, List.getD_eq_getElem?_getD, List.getElem?_eq_getElem (by omega)]; rfl
    rw [e, List.flatMap_cons, List.length_append] at hlen
    simp only [impl_orderOf.l0]
    rw [if_pos (by omega), if_pos (by omega), if_pos (by omega), hf _ (rd_mem cs j (by omega)) k acc (by omega) (by omega)]
    simp only [Option.bind_some]
    rw [w64s (by omega), ih k (j + 1) _ (by omega) (by rw [List.length_append]; omega) (by omega), e]
    simp
theorem impl_orderOf_f {l : List S72} (h : good l = true) : ∀ b : Int, 0 ≤ b → b < l.length → ∀ (k : Nat) (acc : List Int), Kf l b < k → acc.length + (ord l b).length ≤ 1000000 → impl_orderOf.f k l b acc = some (acc ++ ord l b) := by
  refine kid_ind h _ fun b h0 h1 ih => ?_
  intro k acc hk hlen
  have hg := good_len h
  have hr := good_root h
  have hkl := kids_len l b
  obtain ⟨k, rfl⟩ : ∃ m, k = m + 1 := ⟨k - 1, by omega⟩
  rw [ord_eq h h0 h1, List.length_cons] at hlen
  unfold Kf at hk
  simp only [impl_orderOf.f]
  rw [if_pos (by omega), childrenOf_f (by omega) (by omega)]
  simp only [Option.bind_some]
  have := impl_orderOf_l0 (l := l) (kids l b) (by omega) (((l.length : Int) - b).toNat * 60) (fun c hc k acc hk hl => by
    have := kid_gt h hc
    exact ih c hc k acc (by unfold Kf; omega) hl) (kids l b).length k 0 (acc ++ [b]) (by omega) (by simp at hlen ⊢; omega) (by omega)
  rw [show ((0 : Nat) : Int) = 0 from rfl] at this
  rw [this, ord_eq h h0 h1]
  simp
theorem sorted_ext : ∀ (a b : List Int), a.Pairwise (· < ·) → b.Pairwise (· < ·) → (∀ x, x ∈ a ↔ x ∈ b) → a = b := by
  intro a
  induction a with
  | nil =>
    intro b _ _ h
    cases b with
    | nil => rfl
    | cons y b => exact absurd ((h y).2 (by simp)) (by simp)
  | cons x a ih =>
    intro b ha hb h
    cases b with
    | nil => exact absurd ((h x).1 (by simp)) (by simp)
    | cons y b =>
      rw [List.pairwise_cons] at ha hb
      have e : x = y := by
        have h1 := (h x).1 (by simp)
        have h2 := (h y).2 (by simp)
        rcases List.mem_cons.1 h1 with h1 | h1
        · exact h1
        · rcases List.mem_cons.1 h2 with h2 | h2
          · exact h2.symm
          · have := ha.1 y h2; have := hb.1 x h1; omega
      subst e
      congr 1
      refine ih b ha.2 hb.2 fun z => ⟨fun hz => ?_, fun hz => ?_⟩
      · rcases List.mem_cons.1 ((h z).1 (List.mem_cons_of_mem _ hz)) with h1 | h1
        · have := ha.1 z hz; omega
        · exact h1
      · rcases List.mem_cons.1 ((h z).2 (List.mem_cons_of_mem _ hz)) with h1 | h1
        · have := hb.1 z hz; omega
        · exact h1
theorem rd_getElem (l : List Int) (i : Nat) (h : i < l.length) : rd l (i : Int) = l[i] := by
  rw [rd_eq, List.getD_eq_getElem?_getD, List.getElem?_eq_getElem h]; rfl
/-- A number put to its place in a rising list, once. -/
def insS : List Int → Int → List Int
  | [], n => [n]
  | x :: xs, n => if x < n then x :: insS xs n else if x = n then x :: xs else n :: x :: xs
theorem insS_mem (l : List Int) (n y : Int) : y ∈ insS l n ↔ y = n ∨ y ∈ l := by
  induction l with
  | nil => simp [insS]
  | cons x xs ih =>
    simp only [insS]
    split
    · rw [List.mem_cons, ih, List.mem_cons]; constructor
      · rintro (h | h | h)
        · exact .inr (.inl h)
        · exact .inl h
        · exact .inr (.inr h)
      · rintro (h | h | h)
        · exact .inr (.inl h)
        · exact .inl h
        · exact .inr (.inr h)
    · split
      · rename_i h; subst h; simp
      · simp
theorem insS_sorted (l : List Int) (n : Int) (h : l.Pairwise (· < ·)) : (insS l n).Pairwise (· < ·) := by
  induction l with
  | nil => simp [insS]
  | cons x xs ih =>
    rw [List.pairwise_cons] at h
    simp only [insS]
    split
    · rename_i hx
      rw [List.pairwise_cons]
      refine ⟨fun y hy => ?_, ih h.2⟩
      rcases (insS_mem xs n y).1 hy with rfl | hy
      · exact hx
      · exact h.1 y hy
    · split
      · rw [List.pairwise_cons]; exact h
      · rw [List.pairwise_cons, List.pairwise_cons]
        refine ⟨fun y hy => ?_, h⟩
        rcases List.mem_cons.1 hy with rfl | hy
        · omega
        · have := h.1 y hy; omega
theorem insS_len (l : List Int) (n : Int) : (insS l n).length ≤ l.length + 1 := by
  induction l with
  | nil => simp [insS]
  | cons x xs ih =>
    simp only [insS]
    split
    · simp only [List.length_cons]; omega
    · split <;> simp
theorem rd_mid (pre : List Int) (x : Int) (post : List Int) : rd (pre ++ x :: post) (pre.length : Int) = x := by
  simp [rd, List.getD_eq_getElem?_getD]
theorem l1Put_l0 (n : Int) (suf : List Int) : ∀ (pre : List Int) (k : Nat), pre.length + suf.length ≤ 100000 → suf.length < k → spec_l1Put.l0 k (pre ++ suf) n (pre.length : Int) = some (pre ++ insS suf n) := by
  induction suf with
  | nil =>
    intro pre k hl hk
    obtain ⟨k, rfl⟩ := step_k hk
    simp only [spec_l1Put.l0, Option.bind_some, List.append_nil, List.nil_append, Int.toNat_natCast, List.take_length, List.drop_length]
    simp only [List.length_nil] at hl
    rw [if_neg (by omega), if_pos (by omega), if_pos (by omega), if_pos (by simp; omega), if_pos (by omega), if_pos (by simp; omega)]
    rfl
  | cons x xs ih =>
    intro pre k hl hk
    obtain ⟨k, rfl⟩ := step_k hk
    simp only [List.length_cons] at hl hk
    have htk : (pre ++ x :: xs).take pre.length = pre := by simp
    have hdr : (pre ++ x :: xs).drop pre.length = x :: xs := by simp
    simp only [spec_l1Put.l0, Option.bind_some, List.nil_append, Int.toNat_natCast, htk, hdr]
    rw [if_pos (by simp; omega), if_pos (by omega), rd_mid]
    simp only [insS]
    by_cases h1 : x < n
    · rw [if_pos h1, if_pos h1, w64s (by omega)]
      have := ih (pre ++ [x]) k (by simp; omega) (by omega)
      rw [List.length_append, List.length_singleton, List.append_assoc, List.singleton_append, List.append_assoc, List.singleton_append] at this
      exact this
    · rw [if_neg h1, if_neg h1]
      by_cases h2 : x = n
      · rw [if_pos h2, if_pos h2]
      · rw [if_neg h2, if_neg h2, if_pos (by simp; omega), if_pos (by simp; omega), if_pos (by omega), if_pos (by simp; omega)]
        simp
theorem l1Put_f {k : Nat} {l : List Int} {n : Int} (hl : l.length ≤ 100000) (hk : l.length < k) : spec_l1Put.f k l n = some (insS l n) := by
  unfold spec_l1Put.f
  exact l1Put_l0 n l [] k (by simpa using hl) hk
def insAll (acc : List Int) (l : List Int) : List Int := l.foldl insS acc
theorem insAll_mem (l : List Int) : ∀ (acc : List Int) (y : Int), y ∈ insAll acc l ↔ y ∈ acc ∨ y ∈ l := by
  induction l with
  | nil => intro acc y; simp [insAll]
  | cons x xs ih =>
    intro acc y
    show y ∈ insAll (insS acc x) xs ↔ _
    rw [ih, insS_mem, List.mem_cons]
    constructor
    · rintro ((h | h) | h)
      · exact .inr (.inl h)
      · exact .inl h
      · exact .inr (.inr h)
    · rintro (h | h | h)
      · exact .inl (.inr h)
      · exact .inl (.inl h)
      · exact .inr h
theorem insAll_sorted (l : List Int) : ∀ acc : List Int, acc.Pairwise (· < ·) → (insAll acc l).Pairwise (· < ·) := by
  induction l with
  | nil => intro acc h; exact h
  | cons x xs ih => intro acc h; exact ih _ (insS_sorted acc x h)
theorem insAll_len (l : List Int) : ∀ acc : List Int, (insAll acc l).length ≤ acc.length + l.length := by
  induction l with
  | nil => intro acc; exact Nat.le_refl _
  | cons x xs ih =>
    intro acc
    have h1 := ih (insS acc x)
    have h2 := insS_len acc x
    show (insAll (insS acc x) xs).length ≤ _
    simp only [List.length_cons]; omega
theorem l4Below_l0 (O : List Int) (hO : O.length ≤ 1000) (d : Nat) : ∀ (k i : Nat) (acc : List Int), i + d = O.length → acc.length ≤ i → d + 2000 < k → spec_l4Below.l0 k acc O (O.length : Int) i = some (insAll acc (O.drop i)) := by
  induction d with
  | zero =>
    intro k i acc hi ha hk
    obtain ⟨k, rfl⟩ := step_k hk
    simp only [spec_l4Below.l0]
    rw [if_neg (by omega), List.drop_eq_nil_of_le (by omega)]; rfl
  | succ d ih =>
    intro k i acc hi ha hk
    obtain ⟨k, rfl⟩ := step_k hk
    have h2 := insS_len acc (rd O (i : Int))
    simp only [spec_l4Below.l0]
    rw [if_pos (by omega), if_pos (by omega), if_pos (by omega), l1Put_f (by omega) (by omega)]
    simp only [Option.bind_some]
    rw [w64s (by omega), ih k (i + 1) _ (by omega) (by omega) (by omega)]
    have e : O.drop i = rd O (i : Int) :: O.drop (i + 1) := by
      rw [List.drop_eq_getElem_cons (by omega)]
      congr 1
      have := rd_get O i (by omega)
      rw [List.getElem?_eq_getElem (by omega)] at this
      exact Option.some.inj this
    rw [e]; rfl
def bel (l : List S72) (b : Int) : List Int := insAll [] (ord l b)
theorem bel_sort {l : List S72} (h : good l = true) {b : Int} (h0 : 0 ≤ b) (h1 : b < l.length) : ((ord l b).mergeSort fun x y => decide (x ≤ y)) = bel l b := by
  refine sorted_ext _ _ ?_ (insAll_sorted _ _ List.Pairwise.nil) fun x => ?_
  · have hp := List.pairwise_mergeSort (le := fun x y : Int => decide (x ≤ y)) (by intro a b c h1 h2; rw [decide_eq_true_eq] at *; omega) (by intro a b; rw [Bool.or_eq_true, decide_eq_true_eq, decide_eq_true_eq]; omega) (ord l b)
    have hn : ((ord l b).mergeSort fun x y => decide (x ≤ y)).Nodup := (List.mergeSort_perm (ord l b) _).nodup_iff.2 (ord_nodup h b h0 h1)
    refine (List.pairwise_and_iff.2 ⟨hp, hn⟩).imp fun {x y} hxy => ?_
    have := of_decide_eq_true hxy.1
    have := hxy.2
    omega
  · rw [List.mem_mergeSort]
    unfold bel
    rw [insAll_mem]; simp
theorem bel_len {l : List S72} (h : good l = true) {b : Int} (h0 : 0 ≤ b) (h1 : b < l.length) : (bel l b).length ≤ 24 := by
  have hg := good_len h
  have h2 := ord_len h h0 h1
  have h3 := insAll_len (ord l b) []
  unfold bel
  simp only [List.length_nil] at h3
  omega
theorem l4Below_f {l : List S72} (h : good l = true) {b : Int} (h0 : 0 ≤ b) (h1 : b < l.length) {k : Nat} (hk : 5000 < k) : spec_l4Below.f k l b = some (bel l b) := by
  have hg := good_len h
  have h2 := ord_len h h0 h1
  unfold spec_l4Below.f
  rw [spec_l4Order_f h b h0 h1 k [] (by unfold Kf; omega) (by simp; omega)]
  simp only [Option.bind_some, List.nil_append]
  have := l4Below_l0 (ord l b) (by omega) (ord l b).length k 0 [] (by omega) (by simp) (by omega)
  rw [List.drop_zero] at this
  exact this
theorem Sort_f {l : List S72} (h : good l = true) {b : Int} (h0 : 0 ≤ b) (h1 : b < l.length) : slices_Sort_int_int.f (ord l b) = some (bel l b) := by
  have hg := good_len h
  have h2 := ord_len h h0 h1
  unfold slices_Sort_int_int.f
  rw [if_pos (by omega), bel_sort h h0 h1]
def res (l : List S72) (b : Int) : List Int × Bool := if there l b then (bel l b, true) else ([], false)
theorem res_len (l : List S72) (b : Int) : (res l b).1.length ≤ 100 := by
  unfold res
  split
  · rename_i h
    have h3 := there_iff.1 h
    have := bel_len h3.1 h3.2.1 h3.2.2
    show (bel l b).length ≤ 100; omega
  · simp
theorem spec_BelowOf_f {k : Nat} {l : List S72} {b : Int} (hn : l.length ≤ 100000000000000) (hk : l.length + 6000 < k) : spec_BelowOf.f k l b = some (res l b) := by
  unfold spec_BelowOf.f res
  simp (disch := omega) only [l3There_f, Option.bind_some]
  by_cases h1 : there l b = true
  · have h3 := there_iff.1 h1
    rw [if_pos h1, if_pos h1, l4Below_f h3.1 h3.2.1 h3.2.2 (by omega)]; rfl
  · rw [if_neg h1, if_neg h1]
theorem impl_BelowOf_f {k : Nat} {l : List S72} {b : Int} (hn : l.length ≤ 100000000000000) (hk : l.length + 6000 < k) : impl_BelowOf.f k l b = some (res l b) := by
  unfold impl_BelowOf.f res
  simp (disch := omega) only [isBlockOf_f, Option.bind_some]
  by_cases h1 : there l b = true
  · have h3 := there_iff.1 h1
    have hg := good_len h3.1
    have h2 := ord_len h3.1 h3.2.1 h3.2.2
    rw [if_pos h1, if_pos h1, impl_orderOf_f h3.1 b h3.2.1 h3.2.2 k [] (by unfold Kf; omega) (by simp; omega)]
    simp only [Option.bind_some, List.nil_append]
    rw [Sort_f h3.1 h3.2.1 h3.2.2]; rfl
  · rw [if_neg h1, if_neg h1]
theorem FnExactBelowOf : ∀ (l0 : List (S74)) (a1 : Int), l0.length * 16 ≤ 140737488351232 → (∀ v ∈ l0, (Lit.int .i64 v.f0).wf = true ∧ (Lit.int .i64 v.f1).wf = true) → (Lit.int .i64 a1).wf = true → ∃ k, laws_FnExactBelowOf.f k l0 a1 = some true := by
  intro l b hl
  intros
  suffices h : ∀ k, 1058990 ≤ k → laws_FnExactBelowOf.f k l b = some true from ⟨_, h _ (Nat.le_refl _)⟩
  intro k hk
  have hm : (l.map cvB).length = l.length := by simp
  unfold laws_FnExactBelowOf.f
  simp (disch := omega) only [szBlockS_f, Option.bind_some]
  by_cases h : (1048576 : Int) < l.length
  · rw [if_pos h, if_pos (by omega)]
  · rw [if_neg h, if_neg (by omega)]
    obtain ⟨m, hm1, hm2⟩ : ∃ m, k = m + 3 ∧ 1058980 ≤ m := ⟨k - 3, by omega, by omega⟩
    rw [hm1]
    have hl2 := res_len (l.map cvB) b
    have hneg : (1 + ((res (l.map cvB) b).1.length : Int) < 0) = False := eq_false (by omega)
    simp (disch := omega) only [toBlockS_f, spec_BelowOf_f, impl_BelowOf_f, eqBlockS_f, eqIntS_f, markBlockS_f, Option.bind_some, bne_self_eq_false, laws_FnExactBelowOf.j0, Bool.false_eq_true, if_false, if_true]
    rw [if_neg (by omega)]
    simp (disch := omega) only [toBlockS_f, impl_BelowOf_f, eqIntS_f, markIntS_f, heldIntS_f, Option.bind_some, bne_self_eq_false, laws_FnExactBelowOf.j1, laws_FnExactBelowOf.j2, Bool.false_eq_true, if_false, if_true, hneg]

end Go.Proofs.Ytbkdgobgjebjkaa.Pure
