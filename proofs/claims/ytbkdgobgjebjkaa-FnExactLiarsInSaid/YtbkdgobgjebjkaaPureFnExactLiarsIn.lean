/- The program's LiarsIn and the reference's return the same at every list of blocks, every list of stakes and every pool, in memory of their own, and leave them as they are. No condition. -/
import Derived.Test.YtbkdgobgjebjkaaPFnExactLiarsInx0
import Derived.Test.YtbkdgobgjebjkaaPFnExactLiarsInx1
import Derived.Test.YtbkdgobgjebjkaaPFnExactLiarsInx2
import Derived.Test.YtbkdgobgjebjkaaPFnExactLiarsInx3
import Derived.Test.YtbkdgobgjebjkaaPFnExactLiarsInx4
import Derived.Test.YtbkdgobgjebjkaaPFnExactLiarsInx5
import Derived.Test.YtbkdgobgjebjkaaPFnExactLiarsInx6
import Derived.Test.YtbkdgobgjebjkaaPFnExactLiarsInx7
import Derived.Test.YtbkdgobgjebjkaaPFnExactLiarsInx8
import Derived.Test.YtbkdgobgjebjkaaPFnExactLiarsInx9
import Derived.Test.YtbkdgobgjebjkaaPFnExactLiarsInx10
import Derived.Test.YtbkdgobgjebjkaaPFnExactLiarsInx11
namespace Go.Proofs.Ytbkdgobgjebjkaa.Pure
open Go.RowKit Go.Proofs.Ytbkdgobgjebjkaa.PFnExactLiarsIn Go.Proofs.YtbkdgobgjebjkaaW.PrintWords Go.Proofs.YtbkdgobgjebjkaaW.PrintLast Go.Proofs.YtbkdgobgjebjkaaW.PrintMore
set_option linter.unusedVariables false
set_option linter.unusedSimpArgs false
theorem w64 {n : Int} (h0 : -9223372036854775808 ≤ n) (h1 : n ≤ 9223372036854775807) : wrap64 n = n := by unfold wrap64; omega
theorem w64s {i : Nat} (h1 : i ≤ 1000000000000000) : wrap64 ((i : Int) + 1) = ((i + 1 : Nat) : Int) := by rw [w64 (by omega) (by omega)]; omega
theorem rd_eq (l : List Int) (i : Nat) : rd l (i : Int) = l.getD i 0 := by simp [rd]
theorem rd_get (l : List Int) (i : Nat) (h : i < l.length) : l[i]? = some (rd l (i : Int)) := by
  simp [rd, List.getD_eq_getElem?_getD, List.getElem?_eq_getElem h]
theorem rd_mem (l : List Int) (i : Nat) (h : i < l.length) : rd l (i : Int) ∈ l := List.mem_of_getElem? (rd_get l i h)
theorem step_k {k d : Nat} (h : d < k) : ∃ m, k = m + 1 := ⟨k - 1, by omega⟩
def inn (a b c : Int) : Bool := decide (b ≤ a ∧ a ≤ c)
theorem inn_t {a b c : Int} : inn a b c = true ↔ b ≤ a ∧ a ≤ c := by simp [inn]
theorem inn_f {a b c : Int} : inn a b c = false ↔ a < b ∨ c < a := by simp [inn]; omega
theorem l1In_f (a b c : Int) : spec_l1In.f a b c = some (inn a b c) := by
  unfold spec_l1In.f inn
  by_cases h : a ≥ b
  · rw [if_pos h]; simp [show b ≤ a from h]
  · rw [if_neg h]; simp [show ¬ b ≤ a from h]
theorem within_f (a b c : Int) : impl_within.f a b c = some (inn a b c) := by
  unfold impl_within.f inn
  by_cases h : a ≥ b
  · rw [if_pos h]; simp [show b ≤ a from h]
  · rw [if_neg h]; simp [show ¬ b ≤ a from h]
def par (l : List S72) (b : Int) : Int := (rd_T72 l b).f0
def slt (l : List S72) (b : Int) : Int := (rd_T72 l b).f1
/-- Block i is in its place. -/
def okB (l : List S72) (i : Nat) : Bool := if i = 0 then decide (par l 0 = -1) && decide (slt l 0 = 0) else inn (par l i) 0 ((i : Int) - 1) && inn (slt l i) (slt l (par l i) + 1) 4000
def okFrom (l : List S72) : Nat → Nat → Bool
  | _, 0 => true
  | i, d + 1 => okB l i && okFrom l (i + 1) d
def good (l : List S72) : Bool := inn (l.length : Int) 1 24 && okFrom l 0 l.length
theorem okFrom_iff (l : List S72) : ∀ d i, okFrom l i d = true ↔ ∀ j, i ≤ j → j < i + d → okB l j = true := by
  intro d
  induction d with
  | zero => intro i; simp only [okFrom, true_iff]; intro j h1 h2; omega
  | succ d ih =>
    intro i
    simp only [okFrom, Bool.and_eq_true, ih]
    constructor
    · rintro ⟨h1, h3⟩ j hj hj2
      by_cases e : j = i
      · subst e; exact h1
      · exact h3 j (by omega) (by omega)
    · intro h
      exact ⟨h i (Nat.le_refl _) (by omega), fun j hj hj2 => h j (by omega) (by omega)⟩
theorem okB_zero {l : List S72} : okB l 0 = true ↔ par l 0 = -1 ∧ slt l 0 = 0 := by simp [okB]
theorem okB_pos {l : List S72} {i : Nat} (h : i ≠ 0) : okB l i = true ↔ (0 ≤ par l i ∧ par l i ≤ (i : Int) - 1) ∧ slt l (par l i) + 1 ≤ slt l i ∧ slt l i ≤ 4000 := by
  simp only [okB, if_neg h, Bool.and_eq_true, inn_t]
/-- What is in its place has a slot from 0 to 4000. -/
theorem okB_slot (l : List S72) (n : Nat) (h : ∀ j, j < n → okB l j = true) : ∀ j, j < n → 0 ≤ slt l j ∧ slt l j ≤ 4000 := by
  intro j
  induction j using Nat.strongRecOn with
  | _ j ih =>
    intro hj
    have h1 := h j hj
    by_cases e : j = 0
    · subst e
      have h2 := (okB_zero.1 h1).2
      have e0 : ((0 : Nat) : Int) = 0 := rfl
      rw [e0]; omega
    · have h2 := (okB_pos e).1 h1
      have h3 := ih (par l j).toNat (by omega) (by omega)
      rw [show (((par l j).toNat : Nat) : Int) = par l j by omega] at h3
      omega
theorem good_len {l : List S72} (h : good l = true) : 1 ≤ l.length ∧ l.length ≤ 24 := by
  simp only [good, Bool.and_eq_true, inn_t] at h
  omega
theorem good_ok {l : List S72} (h : good l = true) : ∀ j, j < l.length → okB l j = true := by
  simp only [good, Bool.and_eq_true, okFrom_iff] at h
  exact fun j hj => h.2 j (by omega) (by omega)
theorem good_root {l : List S72} (h : good l = true) : par l 0 = -1 ∧ slt l 0 = 0 := okB_zero.1 (good_ok h 0 (by have := good_len h; omega))
theorem good_pos {l : List S72} (h : good l = true) {b : Int} (h0 : 0 < b) (h1 : b < l.length) : 0 ≤ par l b ∧ par l b < b ∧ slt l (par l b) < slt l b ∧ slt l b ≤ 4000 := by
  have h2 := (okB_pos (l := l) (i := b.toNat) (by omega)).1 (good_ok h _ (by omega))
  rw [show ((b.toNat : Nat) : Int) = b by omega] at h2
  omega
theorem good_slot {l : List S72} (h : good l = true) {b : Int} (h0 : 0 ≤ b) (h1 : b < l.length) : 0 ≤ slt l b ∧ slt l b ≤ 4000 := by
  have := okB_slot l l.length (good_ok h) b.toNat (by omega)
  rwa [show ((b.toNat : Nat) : Int) = b by omega] at this
theorem good_par {l : List S72} (h : good l = true) {b : Int} (h0 : 0 ≤ b) (h1 : b < l.length) : -1 ≤ par l b ∧ par l b < b := by
  by_cases e : b = 0
  · subst e; rw [(good_root h).1]; omega
  · have := good_pos h (b := b) (by omega) h1; omega
def there (l : List S72) (b : Int) : Bool := good l && decide (0 ≤ b ∧ b < l.length)
theorem there_iff {l : List S72} {b : Int} : there l b = true ↔ good l = true ∧ 0 ≤ b ∧ b < l.length := by simp [there]
theorem GoodTreeS_l0 (l : List S72) (hn : l.length ≤ 100000000000000) (d : Nat) : ∀ (k i : Nat), (∀ j, j < i → okB l j = true) → i + d = l.length → d < k → spec_GoodTree.l0 k l l (l.length : Int) i = some (okFrom l i d && inn (l.length : Int) 1 24) := by
  induction d with
  | zero =>
    intro k i _ hi' hk
    obtain ⟨k, rfl⟩ := step_k hk
    simp only [spec_GoodTree.l0, l1In_f, Option.bind_some]; rw [if_neg (by omega)]; simp [okFrom]
  | succ d ih =>
    intro k i hok hi' hk
    obtain ⟨k, rfl⟩ := step_k hk
    have next : okB l i = true → spec_GoodTree.l0 k l l (l.length : Int) ((i + 1 : Nat) : Int) = some (okFrom l (i + 1) d && inn (l.length : Int) 1 24) := fun h => ih k (i + 1) (fun j hj => by
      by_cases e : j = i
      · subst e; exact h
      · exact hok j (by omega)) (by omega) (by omega)
    simp only [spec_GoodTree.l0, l1In_f, Option.bind_some]
    rw [if_pos (by omega), if_pos (by omega), if_pos (by omega), w64s (by omega)]
    by_cases e : i = 0
    · subst e
      rw [if_pos (by omega)]
      by_cases h1 : par l 0 = -1
      · rw [if_pos (show (rd_T72 l ((0 : Nat) : Int)).f0 = -1 from h1)]
        by_cases h2 : slt l 0 = 0
        · rw [if_pos (show (rd_T72 l ((0 : Nat) : Int)).f1 = 0 from h2), next (okB_zero.2 ⟨h1, h2⟩)]
          simp [okFrom, okB_zero.2 ⟨h1, h2⟩]
        · rw [if_neg (show ¬ (rd_T72 l ((0 : Nat) : Int)).f1 = 0 from h2)]
          have : okB l 0 = false := by rw [Bool.eq_false_iff]; intro h; exact h2 (okB_zero.1 h).2
          simp [okFrom, this]
      · rw [if_neg (show ¬ (rd_T72 l ((0 : Nat) : Int)).f0 = -1 from h1)]
        have : okB l 0 = false := by rw [Bool.eq_false_iff]; intro h; exact h1 (okB_zero.1 h).1
        simp [okFrom, this]
    · rw [if_neg (by omega), w64 (n := (i : Int) - 1) (by omega) (by omega)]
      show (if inn (par l i) 0 ((i : Int) - 1) = true then _ else _) = _
      by_cases h1 : inn (par l i) 0 ((i : Int) - 1) = true
      · rw [if_pos h1]
        have h1' := inn_t.1 h1
        have hp := okB_slot l i hok (par l i).toNat (by omega)
        rw [show (((par l i).toNat : Nat) : Int) = par l i by omega] at hp
        show (if inn (slt l i) 1 4000 = true then (if 0 ≤ par l i then (if par l i < (l.length : Int) then (if slt l i ≤ slt l (par l i) then _ else _) else _) else _) else _) = _
        by_cases h2 : inn (slt l i) (slt l (par l i) + 1) 4000 = true
        · have h2' := inn_t.1 h2
          rw [if_pos (inn_t.2 ⟨by omega, h2'.2⟩), if_pos h1'.1, if_pos (by omega), if_neg (by omega), next ((okB_pos e).2 ⟨h1', h2'⟩)]
          simp [okFrom, (okB_pos e).2 ⟨h1', h2'⟩]
        · have hb : okB l i = false := by
            rw [Bool.eq_false_iff]; intro h; exact h2 (inn_t.2 ((okB_pos e).1 h).2)
          have h2' := inn_f.1 (Bool.eq_false_iff.2 h2)
          simp only [okFrom, hb, Bool.false_and]
          by_cases h3 : inn (slt l i) 1 4000 = true
          · have h3' := inn_t.1 h3
            rw [if_pos h3, if_pos h1'.1, if_pos (by omega), if_pos (by omega)]
          · rw [if_neg h3]
      · rw [if_neg h1]
        have hb : okB l i = false := by
          rw [Bool.eq_false_iff]; intro h; exact h1 (inn_t.2 ((okB_pos e).1 h).1)
        simp [okFrom, hb]
theorem GoodTreeS_f {k : Nat} {l : List S72} (hn : l.length ≤ 100000000000000) (hk : l.length < k) : spec_GoodTree.f k l = some (good l) := by
  unfold spec_GoodTree.f good
  rw [show (0 : Int) = ((0 : Nat) : Int) from rfl, GoodTreeS_l0 l hn l.length k 0 (fun j hj => by omega) (by omega) hk, Bool.and_comm]
theorem drop1 (l : List S72) (i : Nat) : rd_T72 (l.drop 1) (i : Int) = rd_T72 l ((i + 1 : Nat) : Int) := by
  simp [rd_T72, List.getD_eq_getElem?_getD, List.getElem?_drop, Nat.add_comm]
theorem isTree_l0 (l : List S72) (hn : l.length ≤ 100000000000000) (d : Nat) : ∀ (k i : Nat), (∀ j, j < i + 1 → okB l j = true) → i + 1 + d = l.length → d < k → impl_isTree.l0 k l (l.drop 1) (((l.drop 1).length : Nat) : Int) i = some (okFrom l (i + 1) d) := by
  induction d with
  | zero =>
    intro k i _ hi' hk
    obtain ⟨k, rfl⟩ := step_k hk
    simp only [impl_isTree.l0]; rw [if_neg (by simp; omega)]; simp [okFrom]
  | succ d ih =>
    intro k i hok hi' hk
    obtain ⟨k, rfl⟩ := step_k hk
    have hlen : (l.drop 1).length = l.length - 1 := by simp
    simp only [impl_isTree.l0, within_f, Option.bind_some]
    rw [if_pos (by rw [hlen]; omega), if_pos (by omega), if_pos (by rw [hlen]; omega), w64s (by omega), drop1]
    show (if inn (par l ((i + 1 : Nat) : Int)) 0 (i : Int) = true then (if 0 ≤ par l ((i + 1 : Nat) : Int) then (if par l ((i + 1 : Nat) : Int) < (l.length : Int) then (if inn (slt l ((i + 1 : Nat) : Int)) (wrap64 (slt l (par l ((i + 1 : Nat) : Int)) + 1)) 4000 = true then _ else _) else _) else _) else _) = _
    by_cases h1 : inn (par l ((i + 1 : Nat) : Int)) 0 (i : Int) = true
    · rw [if_pos h1]
      have h1' := inn_t.1 h1
      have hp := okB_slot l (i + 1) hok (par l ((i + 1 : Nat) : Int)).toNat (by omega)
      rw [show (((par l ((i + 1 : Nat) : Int)).toNat : Nat) : Int) = par l ((i + 1 : Nat) : Int) by omega] at hp
      rw [if_pos h1'.1, if_pos (by omega), w64 (by omega) (by omega)]
      by_cases h2 : inn (slt l ((i + 1 : Nat) : Int)) (slt l (par l ((i + 1 : Nat) : Int)) + 1) 4000 = true
      · have hb : okB l (i + 1) = true := (okB_pos (by omega)).2 ⟨⟨h1'.1, by omega⟩, inn_t.1 h2⟩
        rw [if_pos h2, ih k (i + 1) (fun j hj => by
          by_cases e : j = i + 1
          · subst e; exact hb
          · exact hok j (by omega)) (by omega) (by omega)]
        simp [okFrom, hb]
      · have hb : okB l (i + 1) = false := by
          rw [Bool.eq_false_iff]; intro h; exact h2 (inn_t.2 ((okB_pos (by omega)).1 h).2)
        rw [if_neg h2]; simp [okFrom, hb]
    · have hb : okB l (i + 1) = false := by
        rw [Bool.eq_false_iff]; intro h
        have h3 := ((okB_pos (by omega)).1 h).1
        exact h1 (inn_t.2 ⟨h3.1, by omega⟩)
      rw [if_neg h1]; simp [okFrom, hb]
theorem isTree_f {k : Nat} {l : List S72} (hn : l.length ≤ 100000000000000) (hk : 30 < k) : impl_isTree.f k l = some (good l) := by
  obtain ⟨k, rfl⟩ := step_k hk
  unfold impl_isTree.f
  simp only [within_f, Option.bind_some]
  by_cases h0 : inn (l.length : Int) 1 24 = true
  · have h0' := inn_t.1 h0
    rw [if_pos h0, if_pos (by omega)]
    by_cases h : okB l 0 = true
    · have h' := okB_zero.1 h
      have e1 : (rd_T72 l 0).f0 = -1 := h'.1
      have e2 : (rd_T72 l 0).f1 = 0 := h'.2
      simp only [e1, e2, impl_isTree.j0]
      rw [if_neg (by simp), if_pos (by omega)]
      simp only [Option.bind_some]
      rw [show (0 : Int) = ((0 : Nat) : Int) from rfl, isTree_l0 l hn (l.length - 1) k 0 (fun j hj => by obtain rfl : j = 0 := by omega
                                                                                                         exact h) (by omega) (by omega)]
      congr 1
      have e3 : l.length = (l.length - 1) + 1 := by omega
      unfold good
      rw [h0, Bool.true_and, e3]
      simp only [okFrom, h, Bool.true_and, Nat.add_sub_cancel]
    · have hc : (!((rd_T72 l 0).f0 == -1) || !((rd_T72 l 0).f1 == 0)) = true := by
        by_cases e : (rd_T72 l 0).f0 = -1
        · by_cases e2 : (rd_T72 l 0).f1 = 0
          · exact absurd (okB_zero.2 ⟨e, e2⟩) h
          · simp [e2]
        · simp [e]
      rw [hc]
      simp only [impl_isTree.j0, if_true]
      have e3 : l.length = (l.length - 1) + 1 := by omega
      unfold good
      rw [e3]
      simp [okFrom, Bool.eq_false_iff.2 h]
  · rw [if_neg h0]
    simp only [impl_isTree.j0, if_true]
    simp [good, Bool.eq_false_iff.2 h0]
def cvB (x : S74) : S72 := ⟨x.f0, x.f1⟩
theorem rdLB_get (l : List S74) (i : Nat) (h : i < l.length) : l[i]? = some (rd_T74 l (i : Int)) := by
  simp [rd_T74, List.getD_eq_getElem?_getD, List.getElem?_eq_getElem h]
theorem toBlockS_l0 (l : List S74) (hn : l.length ≤ 100000000000000) (d : Nat) : ∀ (k : Nat) (x : List S72) (i : Nat), x.length = l.length → i + d = l.length → d < k → (∀ j, j < i → x[j]? = (l.map cvB)[j]?) →
    laws_toBlockS.l0 k l x i = some (l.map cvB) := by
  induction d with
  | zero =>
    intro k x i hx hi hk hp
    obtain ⟨k, rfl⟩ := step_k hk
    simp only [laws_toBlockS.l0]; rw [if_neg (by omega)]
    congr 1
    apply List.ext_getElem?
    intro j
    by_cases h : j < i
    · exact hp j h
    · rw [List.getElem?_eq_none (by omega), List.getElem?_eq_none (by simp; omega)]
  | succ d ih =>
    intro k x i hx hi hk hp
    obtain ⟨k, rfl⟩ := step_k hk
    simp only [laws_toBlockS.l0, laws_toBlock.f, Option.bind_some]
    rw [if_pos (by omega), if_pos (by omega), if_pos (by omega), w64s (by omega)]
    refine ih k _ (i + 1) (by simpa using hx) (by omega) (by omega) ?_
    intro j hj
    rw [Int.toNat_natCast, List.getElem?_set]
    by_cases h : i = j
    · subst h
      rw [if_pos rfl, if_pos (by omega), List.getElem?_map, rdLB_get l i (by omega)]; rfl
    · rw [if_neg h]; exact hp j (by omega)
theorem toBlockS_f {k : Nat} {l : List S74} (hn : l.length ≤ 17592186044416) (hk : l.length < k) : laws_toBlockS.f k l = some (l.map cvB) := by
  unfold laws_toBlockS.f
  rw [if_pos (by omega), if_pos (by omega)]
  exact toBlockS_l0 l (by omega) l.length k _ 0 (by simp) (by omega) hk (by intro j hj; omega)
theorem szBlockS_f {l : List S74} {left : Int} (hn : l.length ≤ 100000000000000) (h0 : 0 ≤ left) (h1 : left ≤ 100000000000) : laws_szBlockS.f l left = some (if left < l.length then -1 else left - l.length) := by
  unfold laws_szBlockS.f
  rw [w64 (n := left - (l.length : Int)) (by omega) (by omega)]
  by_cases h : left < l.length
  · rw [if_pos (by omega), if_pos h]
  · rw [if_neg (by omega), if_neg h]
theorem eqBlockS_l0 (l : List S72) (hn : l.length ≤ 100000000000000) (d : Nat) : ∀ (k i : Nat), i + d = l.length → d < k → laws_eqBlockS.l0 k l l i = some true := by
  induction d with
  | zero =>
    intro k i hi hk
    obtain ⟨k, rfl⟩ := step_k hk
    simp only [laws_eqBlockS.l0]; rw [if_neg (by omega)]
  | succ d ih =>
    intro k i hi hk
    obtain ⟨k, rfl⟩ := step_k hk
    simp only [laws_eqBlockS.l0, laws_eqBlock.f, if_true, Option.bind_some]
    rw [if_pos (by omega), if_pos (by omega), if_pos (by omega), w64s (by omega)]
    exact ih k (i + 1) (by omega) (by omega)
theorem eqBlockS_f {k : Nat} {l : List S72} (hn : l.length ≤ 100000000000000) (hk : l.length < k) : laws_eqBlockS.f k l l = some true := by
  unfold laws_eqBlockS.f
  rw [if_pos rfl]
  exact eqBlockS_l0 l hn l.length k 0 (by omega) hk
theorem eqIntS_l0 (l : List Int) (hn : l.length ≤ 100000000000000) (d : Nat) : ∀ (k i : Nat), i + d = l.length → d < k → laws_eqIntS.l0 k l l i = some true := by
  induction d with
  | zero =>
    intro k i hi hk
    obtain ⟨k, rfl⟩ := step_k hk
    simp only [laws_eqIntS.l0]; rw [if_neg (by omega)]
  | succ d ih =>
    intro k i hi hk
    obtain ⟨k, rfl⟩ := step_k hk
    simp only [laws_eqIntS.l0]
    rw [if_pos (by omega), if_pos (by omega), if_pos (by omega), if_true, w64s (by omega)]
    exact ih k (i + 1) (by omega) (by omega)
theorem eqIntS_f {k : Nat} {l : List Int} (hn : l.length ≤ 100000000000000) (hk : l.length < k) : laws_eqIntS.f k l l = some true := by
  unfold laws_eqIntS.f
  rw [if_pos rfl]
  exact eqIntS_l0 l hn l.length k 0 (by omega) hk
theorem toIntS_l0 (l : List Int) (hn : l.length ≤ 100000000000000) (d : Nat) : ∀ (k : Nat) (x : List Int) (i : Nat), x.length = l.length → i + d = l.length → d < k → (∀ j, j < i → x[j]? = l[j]?) →
    laws_toIntS.l0 k l x i = some l := by
  induction d with
  | zero =>
    intro k x i hx hi hk hp
    obtain ⟨k, rfl⟩ := step_k hk
    simp only [laws_toIntS.l0]; rw [if_neg (by omega)]
    congr 1
    apply List.ext_getElem?
    intro j
    by_cases h : j < i
    · exact hp j h
    · rw [List.getElem?_eq_none (by omega), List.getElem?_eq_none (by omega)]
  | succ d ih =>
    intro k x i hx hi hk hp
    obtain ⟨k, rfl⟩ := step_k hk
    simp only [laws_toIntS.l0]
    rw [if_pos (by omega), if_pos (by omega), if_pos (by omega), w64s (by omega)]
    refine ih k _ (i + 1) (by simpa using hx) (by omega) (by omega) ?_
    intro j hj
    rw [Int.toNat_natCast, List.getElem?_set]
    by_cases h : i = j
    · subst h
      rw [if_pos rfl, if_pos (by omega)]
      exact (rd_get l i (by omega)).symm
    · rw [if_neg h]; exact hp j (by omega)
theorem toIntS_f {k : Nat} {l : List Int} (hn : l.length ≤ 35184372088832) (hk : l.length < k) : laws_toIntS.f k l = some l := by
  unfold laws_toIntS.f
  rw [if_pos (by omega), if_pos (by omega)]
  exact toIntS_l0 l (by omega) l.length k _ 0 (by simp) (by omega) hk (by intro j hj; omega)
def marks (a : Int) (n : Nat) : List Int := (List.range n).map fun i : Nat => a + (i : Int)
theorem marks_len (a : Int) (n : Nat) : (marks a n).length = n := by simp [marks]
theorem marks_rd (a : Int) (n i : Nat) (h : i < n) : rd (marks a n) (i : Int) = a + i := by
  simp [marks, rd, List.getD_eq_getElem?_getD, h]
theorem markIntS_l0 (n : Nat) (hn : n ≤ 100000000000000) (a : Int) (h0 : 0 ≤ a) (ha : a ≤ 100000000000000) (d : Nat) : ∀ (k : Nat) (x : List Int) (i : Nat), x.length = n → i + d = n → d < k → (∀ j, j < i → x[j]? = some (a + (j : Int))) →
    laws_markIntS.l0 k x (a + i) i = some (a + n, marks a n) := by
  induction d with
  | zero =>
    intro k x i hx hi hk hp
    obtain ⟨k, rfl⟩ := step_k hk
    simp only [laws_markIntS.l0]; rw [if_neg (by omega)]
    congr 1
    refine Prod.ext (by simp; omega) ?_
    apply List.ext_getElem?
    intro j
    by_cases h : j < i
    · show x[j]? = _
      rw [hp j h]; simp [marks, show j < n by omega]
    · rw [List.getElem?_eq_none (by simp; omega), List.getElem?_eq_none (by rw [marks_len]; omega)]
  | succ d ih =>
    intro k x i hx hi hk hp
    obtain ⟨k, rfl⟩ := step_k hk
    simp only [laws_markIntS.l0]
    rw [if_pos (by omega), if_pos (by omega), w64s (by omega), w64 (n := a + (i : Int) + 1) (by omega) (by omega), show a + (i : Int) + 1 = a + ((i + 1 : Nat) : Int) by omega]
    refine ih k _ (i + 1) (by simpa using hx) (by omega) (by omega) ?_
    intro j hj
    rw [Int.toNat_natCast, List.getElem?_set]
    by_cases h : i = j
    · subst h
      rw [if_pos rfl, if_pos (by omega)]
    · rw [if_neg h]; exact hp j (by omega)
theorem markIntS_f {k : Nat} {l : List Int} {a : Int} (hn : l.length ≤ 100000000000000) (h0 : 0 ≤ a) (ha : a ≤ 100000000000000) (hk : l.length < k) : laws_markIntS.f k l a = some (a + l.length, marks a l.length) := by
  unfold laws_markIntS.f
  have := markIntS_l0 l.length hn a h0 ha l.length k l 0 rfl (by omega) hk (by intro j hj; omega)
  rw [show a + ((0 : Nat) : Int) = a by omega] at this
  exact this
theorem heldIntS_l0 (n : Nat) (hn : n ≤ 100000000000000) (a : Int) (h0 : 0 ≤ a) (ha : a ≤ 100000000000000) (d : Nat) : ∀ (k i : Nat), i + d = n → d < k → laws_heldIntS.l0 k (marks a n) (a + i) i = some (a + n) := by
  induction d with
  | zero =>
    intro k i hi hk
    obtain ⟨k, rfl⟩ := step_k hk
    simp only [laws_heldIntS.l0]; rw [if_neg (by rw [marks_len]; omega)]
    congr 1; omega
  | succ d ih =>
    intro k i hi hk
    obtain ⟨k, rfl⟩ := step_k hk
    simp only [laws_heldIntS.l0]
    rw [if_pos (by rw [marks_len]; omega), if_pos (by omega), if_pos (marks_rd a n i (by omega)), w64s (by omega), w64 (n := a + (i : Int) + 1) (by omega) (by omega), show a + (i : Int) + 1 = a + ((i + 1 : Nat) : Int) by omega]
    exact ih k (i + 1) (by omega) (by omega)
theorem heldIntS_f {k n : Nat} {a : Int} (hn : n ≤ 100000000000000) (h0 : 0 ≤ a) (ha : a ≤ 100000000000000) (hk : n < k) : laws_heldIntS.f k (marks a n) a = some (a + n) := by
  unfold laws_heldIntS.f
  have := heldIntS_l0 n hn a h0 ha n k 0 (by omega) hk
  rw [show a + ((0 : Nat) : Int) = a by omega] at this
  exact this
def marksB (a : Int) (n : Nat) : List S72 := (List.range n).map fun i : Nat => ⟨a + 2 * (i : Int), a + 2 * (i : Int) + 1⟩
theorem markBlockS_l0 (n : Nat) (hn : n ≤ 100000000000000) (a : Int) (h0 : 0 ≤ a) (ha : a ≤ 100000000000000) (d : Nat) : ∀ (k : Nat) (x : List S72) (i : Nat), x.length = n → i + d = n → d < k → (∀ j, j < i → x[j]? = some ⟨a + 2 * (j : Int), a + 2 * (j : Int) + 1⟩) →
    laws_markBlockS.l0 k x (a + 2 * (i : Int)) i = some (a + 2 * (n : Int), marksB a n) := by
  induction d with
  | zero =>
    intro k x i hx hi hk hp
    obtain ⟨k, rfl⟩ := step_k hk
    simp only [laws_markBlockS.l0]; rw [if_neg (by omega)]
    congr 1
    refine Prod.ext (by simp; omega) ?_
    apply List.ext_getElem?
    intro j
    by_cases h : j < i
    · show x[j]? = _
      rw [hp j h]; simp [marksB, show j < n by omega]
    · rw [List.getElem?_eq_none (by simp; omega), List.getElem?_eq_none (by simp [marksB]; omega)]
  | succ d ih =>
    intro k x i hx hi hk hp
    obtain ⟨k, rfl⟩ := step_k hk
    simp only [laws_markBlockS.l0, Option.bind_some]
    rw [if_pos (by omega), if_pos (by omega), w64s (by omega), w64 (n := a + 2 * (i : Int) + 1) (by omega) (by omega), w64 (n := a + 2 * (i : Int) + 1 + 1) (by omega) (by omega), show a + 2 * (i : Int) + 1 + 1 = a + 2 * ((i + 1 : Nat) : Int) by omega]
    refine ih k _ (i + 1) (by simpa using hx) (by omega) (by omega) ?_
    intro j hj
    rw [Int.toNat_natCast, List.getElem?_set]
    by_cases h : i = j
    · subst h
      rw [if_pos rfl, if_pos (by simp; omega)]
      have e : rd_T72 (x.set i ⟨a + 2 * (i : Int), (rd_T72 x (i : Int)).f1⟩) (i : Int) = ⟨a + 2 * (i : Int), (rd_T72 x (i : Int)).f1⟩ := by
        simp [rd_T72, List.getD_eq_getElem?_getD, List.getElem?_set, show i < x.length by omega]
      rw [e]
    · rw [if_neg h, List.getElem?_set, if_neg h]; exact hp j (by omega)
theorem markBlockS_f {k : Nat} {l : List S72} {a : Int} (hn : l.length ≤ 100000000000000) (h0 : 0 ≤ a) (ha : a ≤ 100000000000000) (hk : l.length < k) : laws_markBlockS.f k l a = some (a + 2 * (l.length : Int), marksB a l.length) := by
  unfold laws_markBlockS.f
  have := markBlockS_l0 l.length hn a h0 ha l.length k l 0 rfl (by omega) hk (by intro j hj; omega)
  rw [show a + 2 * ((0 : Nat) : Int) = a by omega] at this
  exact this
def allFrom (l : List Int) (lo hi : Int) : Nat → Nat → Bool
  | _, 0 => true
  | i, d + 1 => inn (rd l i) lo hi && allFrom l lo hi (i + 1) d
def allIn (l : List Int) (lo hi : Int) : Bool := allFrom l lo hi 0 l.length
theorem allFrom_iff (l : List Int) (lo hi : Int) : ∀ d i, allFrom l lo hi i d = true ↔ ∀ j : Nat, i ≤ j → j < i + d → lo ≤ rd l j ∧ rd l j ≤ hi := by
  intro d
  induction d with
  | zero => intro i; simp only [allFrom, true_iff]; intro j h1 h2; omega
  | succ d ih =>
    intro i
    simp only [allFrom, Bool.and_eq_true, ih, inn_t]
    constructor
    · rintro ⟨h1, h3⟩ j hj hj2
      by_cases e : j = i
      · subst e; exact h1
      · exact h3 j (by omega) (by omega)
    · intro h
      exact ⟨h i (Nat.le_refl _) (by omega), fun j hj hj2 => h j (by omega) (by omega)⟩
theorem allIn_bd {l : List Int} {lo hi : Int} (h : allIn l lo hi = true) : ∀ x ∈ l, lo ≤ x ∧ x ≤ hi := by
  intro x hx
  obtain ⟨i, hi', rfl⟩ := List.mem_iff_getElem.1 hx
  have := (allFrom_iff l lo hi l.length 0).1 h i (by omega) (by omega)
  rw [rd_eq, List.getD_eq_getElem?_getD, List.getElem?_eq_getElem hi'] at this
  exact this
theorem allIn_of {l : List Int} {lo hi : Int} (h : ∀ x ∈ l, lo ≤ x ∧ x ≤ hi) : allIn l lo hi = true := (allFrom_iff l lo hi l.length 0).2 fun j _ hj => h _ (rd_mem l j (by omega))
theorem l1All_l0 (l : List Int) (lo hi : Int) (hn : l.length ≤ 100000000000000) (d : Nat) : ∀ (k i : Nat), i + d = l.length → d < k → spec_l1All.l0 k lo hi l (l.length : Int) i = some (allFrom l lo hi i d) := by
  induction d with
  | zero =>
    intro k i hi' hk
    obtain ⟨k, rfl⟩ := step_k hk
    simp only [spec_l1All.l0]; rw [if_neg (by omega)]; rfl
  | succ d ih =>
    intro k i hi' hk
    obtain ⟨k, rfl⟩ := step_k hk
    simp only [spec_l1All.l0, l1In_f, Option.bind_some]
    rw [if_pos (by omega), if_pos (by omega), if_pos (by omega), w64s (by omega), ih k (i + 1) (by omega) (by omega)]
    simp only [allFrom]
    by_cases h1 : inn (rd l i) lo hi = true
    · rw [if_pos h1, h1]; simp
    · rw [if_neg h1]; simp [h1]
theorem l1All_f {k : Nat} {l : List Int} {lo hi : Int} (hn : l.length ≤ 100000000000000) (hk : l.length < k) : spec_l1All.f k l lo hi = some (allIn l lo hi) := by
  unfold spec_l1All.f
  exact l1All_l0 l lo hi hn l.length k 0 (by omega) hk
theorem IndexFunc_l0 (l : List Int) (hn : l.length ≤ 100000000000000) (d : Nat) : ∀ (k i : Nat), i + d = l.length → d < k → ∃ r, slices_IndexFunc_int_int.l0 k l (l.length : Int) i = some r ∧ (0 ≤ r ↔ allFrom l 1 1000 i d = false) := by
  induction d with
  | zero =>
    intro k i hi' hk
    obtain ⟨k, rfl⟩ := step_k hk
    simp only [slices_IndexFunc_int_int.l0]
    rw [if_neg (by omega)]
    exact ⟨_, rfl, by simp [allFrom]⟩
  | succ d ih =>
    intro k i hi' hk
    obtain ⟨k, rfl⟩ := step_k hk
    obtain ⟨r, hr, hiff⟩ := ih k (i + 1) (by omega) (by omega)
    simp only [slices_IndexFunc_int_int.l0, impl_areStakes_1.f, within_f, Option.bind_some]
    rw [if_pos (by omega), if_pos (by omega), if_pos (by omega), w64s (by omega)]
    simp only [allFrom]
    by_cases h1 : inn (rd l i) 1 1000 = true
    · rw [h1]
      simp only [Bool.not_true, Bool.false_eq_true, if_false, Bool.true_and]
      exact ⟨r, hr, hiff⟩
    · rw [Bool.eq_false_iff.2 h1]
      simp only [Bool.not_false, if_true, Bool.false_and]
      exact ⟨_, rfl, by simp⟩
theorem ContainsFunc_f {k : Nat} {l : List Int} {a : Int} (hn : l.length ≤ 100000000000000) (hk : l.length < k) : slices_ContainsFunc_int_int.f k l a = some (!allIn l 1 1000) := by
  unfold slices_ContainsFunc_int_int.f slices_IndexFunc_int_int.f
  obtain ⟨r, hr, hiff⟩ := IndexFunc_l0 l hn l.length k 0 (by omega) hk
  rw [show (0 : Int) = ((0 : Nat) : Int) from rfl, hr]
  simp only [Option.bind_some]
  congr 1
  unfold allIn
  rw [Bool.eq_iff_iff]
  simp only [decide_eq_true_eq, Bool.not_eq_true']
  exact hiff
def okS (l : List Int) : Bool := inn (l.length : Int) 1 10 && allIn l 1 1000
theorem okS_len {l : List Int} (h : okS l = true) : 1 ≤ l.length ∧ l.length ≤ 10 := by
  simp only [okS, Bool.and_eq_true, inn_t] at h; omega
theorem okS_bd {l : List Int} (h : okS l = true) : ∀ x ∈ l, 1 ≤ x ∧ x ≤ 1000 := by
  simp only [okS, Bool.and_eq_true] at h; exact allIn_bd h.2
theorem GoodStakesS_f {k : Nat} {l : List Int} (hn : l.length ≤ 100000000000000) (hk : l.length < k) : spec_GoodStakes.f k l = some (okS l) := by
  unfold spec_GoodStakes.f okS
  simp (disch := assumption) only [l1In_f, l1All_f, Option.bind_some]
  by_cases h : inn (l.length : Int) 1 10 = true
  · rw [if_pos h, h, Bool.true_and]
  · rw [if_neg h]; simp [h]
theorem areStakes_f {k : Nat} {l : List Int} (hn : l.length ≤ 100000000000000) (hk : 30 < k) : impl_areStakes.f k l = some (okS l) := by
  unfold impl_areStakes.f okS
  simp only [within_f, Option.bind_some]
  by_cases h : inn (l.length : Int) 1 10 = true
  · have h2 := inn_t.1 h
    rw [if_pos h, h, Bool.true_and, ContainsFunc_f hn (by omega)]
    simp
  · rw [if_neg h]; simp [h]
def cvV (x : S93) : S67 := ⟨x.f0, x.f1, x.f2⟩
theorem rdLV_get (l : List S93) (i : Nat) (h : i < l.length) : l[i]? = some (rd_T93 l (i : Int)) := by
  simp [rd_T93, List.getD_eq_getElem?_getD, List.getElem?_eq_getElem h]
theorem toVoteS_l0 (l : List S93) (hn : l.length ≤ 100000000000000) (d : Nat) : ∀ (k : Nat) (x : List S67) (i : Nat), x.length = l.length → i + d = l.length → d < k → (∀ j, j < i → x[j]? = (l.map cvV)[j]?) →
    laws_toVoteS.l0 k l x i = some (l.map cvV) := by
  induction d with
  | zero =>
    intro k x i hx hi hk hp
    obtain ⟨k, rfl⟩ := step_k hk
    simp only [laws_toVoteS.l0]; rw [if_neg (by omega)]
    congr 1
    apply List.ext_getElem?
    intro j
    by_cases h : j < i
    · exact hp j h
    · rw [List.getElem?_eq_none (by omega), List.getElem?_eq_none (by simp; omega)]
  | succ d ih =>
    intro k x i hx hi hk hp
    obtain ⟨k, rfl⟩ := step_k hk
    simp only [laws_toVoteS.l0, laws_toVote.f, Option.bind_some]
    rw [if_pos (by omega), if_pos (by omega), if_pos (by omega), w64s (by omega)]
    refine ih k _ (i + 1) (by simpa using hx) (by omega) (by omega) ?_
    intro j hj
    rw [Int.toNat_natCast, List.getElem?_set]
    by_cases h : i = j
    · subst h
      rw [if_pos rfl, if_pos (by omega), List.getElem?_map, rdLV_get l i (by omega)]; rfl
    · rw [if_neg h]; exact hp j (by omega)
theorem toPool_f {k : Nat} {l : List S93} (hn : l.length ≤ 1000000000000) (hk : l.length < k) : laws_toPool.f k l = some (l.map cvV) := by
  unfold laws_toPool.f laws_toVoteS.f
  have key := toVoteS_l0 l (by omega) l.length k (List.replicate ((l.length : Int)).toNat z67) 0 (by simp) (by omega) hk (by intro j hj; omega)
  rw [show ((0 : Nat) : Int) = 0 from rfl] at key
  rw [if_pos (by omega), if_pos (by omega), key]; rfl
theorem szPool_f {l : List S93} {left : Int} (hn : l.length ≤ 100000000000000) (h0 : 0 ≤ left) (h1 : left ≤ 100000000000) : laws_szPool.f l left = some (if left < l.length then -1 else left - l.length) := by
  unfold laws_szPool.f laws_szVoteS.f
  rw [w64 (n := left - (l.length : Int)) (by omega) (by omega)]
  by_cases h : left < l.length
  · rw [if_pos (by omega), if_pos h]; rfl
  · rw [if_neg (by omega), if_neg h]
    simp only [Option.bind_some]
    rw [if_neg (by omega)]
theorem eqVoteS_l0 (l : List S67) (hn : l.length ≤ 100000000000000) (d : Nat) : ∀ (k i : Nat), i + d = l.length → d < k → laws_eqVoteS.l0 k l l i = some true := by
  induction d with
  | zero =>
    intro k i hi hk
    obtain ⟨k, rfl⟩ := step_k hk
    simp only [laws_eqVoteS.l0]; rw [if_neg (by omega)]
  | succ d ih =>
    intro k i hi hk
    obtain ⟨k, rfl⟩ := step_k hk
    simp only [laws_eqVoteS.l0, laws_eqVote.f, if_true, Option.bind_some]
    rw [if_pos (by omega), if_pos (by omega), if_pos (by omega), w64s (by omega)]
    exact ih k (i + 1) (by omega) (by omega)
theorem eqVoteS_f {k : Nat} {l : List S67} (hn : l.length ≤ 100000000000000) (hk : l.length < k) : laws_eqVoteS.f k l l = some true := by
  unfold laws_eqVoteS.f
  rw [if_pos rfl]
  exact eqVoteS_l0 l hn l.length k 0 (by omega) hk
theorem eqPool_f {k : Nat} {l : List S67} (hn : l.length ≤ 100000000000000) (hk : l.length < k) : laws_eqPool.f k l l = some true := by
  unfold laws_eqPool.f
  rw [eqVoteS_f hn hk]; rfl
theorem markVoteS_l0 (n : Nat) (hn : n ≤ 100000000) (d : Nat) : ∀ (k : Nat) (x : List S67) (a : Int) (i : Nat), x.length = n → i + d = n → d < k → 0 ≤ a → a + 3 * (d : Int) ≤ 100000000000 → ∃ m, laws_markVoteS.l0 k x a i = some (a + 3 * (d : Int), m) := by
  induction d with
  | zero =>
    intro k x a i hx hi hk h0 ha
    obtain ⟨k, rfl⟩ := step_k hk
    simp only [laws_markVoteS.l0]; rw [if_neg (by omega)]
    exact ⟨x, by simp⟩
  | succ d ih =>
    intro k x a i hx hi hk h0 ha
    obtain ⟨k, rfl⟩ := step_k hk
    simp only [laws_markVoteS.l0, Option.bind_some]
    rw [if_pos (by omega), if_pos (by omega), w64s (by omega), w64 (n := a + 1) (by omega) (by omega), w64 (n := a + 1 + 1) (by omega) (by omega), w64 (n := a + 1 + 1 + 1) (by omega) (by omega)]
    have key : ∀ y : List S67, y.length = n → ∃ m, laws_markVoteS.l0 k y (a + 1 + 1 + 1) ((i + 1 : Nat) : Int) = some (a + 3 * ((d + 1 : Nat) : Int), m) := by
      intro y hy
      obtain ⟨m, hm⟩ := ih k y (a + 1 + 1 + 1) (i + 1) hy (by omega) (by omega) (by omega) (by omega)
      exact ⟨m, by rw [hm]; congr 2; omega⟩
    exact key _ (by simpa using hx)
theorem markPool_f {k : Nat} {l : List S67} {a : Int} (hn : l.length ≤ 100000000) (hk : l.length < k) (h0 : 0 ≤ a) (ha : a + 3 * (l.length : Int) ≤ 100000000000) : ∃ m, laws_markPool.f k l a = some (a + 3 * (l.length : Int), m) := by
  unfold laws_markPool.f laws_markVoteS.f
  obtain ⟨m, hm⟩ := markVoteS_l0 l.length hn l.length k l a 0 rfl (by omega) hk h0 ha
  rw [show ((0 : Nat) : Int) = 0 from rfl] at hm
  rw [hm]
  exact ⟨m, rfl⟩
def lessV (a b : S67) : Bool := if a.f0 = b.f0 then (if a.f1 = b.f1 then decide (a.f2 < b.f2) else decide (a.f1 < b.f1)) else decide (a.f0 < b.f0)
def okV (l : List S72) (s : List Int) (v : S67) : Bool := inn v.f0 0 ((s.length : Int) - 1) && (inn v.f1 1 4000 && (inn v.f2 0 ((l.length : Int) - 1) && decide (slt l v.f2 ≤ v.f1)))
def allB (f : Nat → Bool) : Nat → Nat → Bool
  | _, 0 => true
  | i, d + 1 => f i && allB f (i + 1) d
theorem allB_and (f g : Nat → Bool) : ∀ d i, allB (fun i => f i && g i) i d = (allB f i d && allB g i d) := by
  intro d
  induction d with
  | zero => intro i; rfl
  | succ d ih =>
    intro i
    simp only [allB, ih]
    cases f i <;> cases g i <;> cases allB f (i + 1) d <;> simp
theorem allB_iff (f : Nat → Bool) : ∀ d i, allB f i d = true ↔ ∀ j, i ≤ j → j < i + d → f j = true := by
  intro d
  induction d with
  | zero => intro i; simp only [allB, true_iff]; intro j h1 h2; omega
  | succ d ih =>
    intro i
    simp only [allB, Bool.and_eq_true, ih]
    constructor
    · rintro ⟨h1, h3⟩ j hj hj2
      by_cases e : j = i
      · subst e; exact h1
      · exact h3 j (by omega) (by omega)
    · intro h
      exact ⟨h i (Nat.le_refl _) (by omega), fun j hj hj2 => h j (by omega) (by omega)⟩
def nthOk (l : List S72) (s : List Int) (p : List S67) (i : Nat) : Bool := okV l s (rd_T67 p (i : Int))
def nthLess (p : List S67) (i : Nat) : Bool := decide (i = 0) || lessV (rd_T67 p ((i : Int) - 1)) (rd_T67 p (i : Int))
def both (l : List S72) (s : List Int) : Bool := good l && okS s
/-- Is it a pool? -/
def pool (l : List S72) (s : List Int) (p : List S67) : Bool := decide (p.length ≤ 60) && (both l s && (allB (nthOk l s p) 0 p.length && allB (nthLess p) 0 p.length))
theorem pool_iff {l : List S72} {s : List Int} {p : List S67} : pool l s p = true ↔ p.length ≤ 60 ∧ good l = true ∧ okS s = true ∧ (∀ j, j < p.length → okV l s (rd_T67 p (j : Int)) = true) ∧ (∀ j, j + 1 < p.length → lessV (rd_T67 p (j : Int)) (rd_T67 p ((j + 1 : Nat) : Int)) = true) := by
  unfold pool both
  simp only [Bool.and_eq_true, decide_eq_true_eq, allB_iff]
  constructor
  · rintro ⟨h1, ⟨h2, h3⟩, h4, h5⟩
    refine ⟨h1, h2, h3, fun j hj => h4 j (by omega) (by omega), fun j hj => ?_⟩
    have := h5 (j + 1) (by omega) (by omega)
    unfold nthLess at this
    rw [show (((j + 1 : Nat) : Int) - 1) = (j : Int) by omega] at this
    simpa using this
  · rintro ⟨h1, h2, h3, h4, h5⟩
    refine ⟨h1, ⟨h2, h3⟩, fun j _ hj => h4 j (by omega), fun j _ hj => ?_⟩
    unfold nthLess
    cases j with
    | zero => simp
    | succ j =>
      rw [show (((j + 1 : Nat) : Int) - 1) = (j : Int) by omega, h5 j (by omega)]
      simp
theorem l6Vote_f {l : List S72} {s : List Int} {a b c : Int} (hl : l.length ≤ 100000000000000) (hs : s.length ≤ 100000000000000) : spec_l6Vote.f l s a b c = some (okV l s ⟨a, b, c⟩) := by
  unfold spec_l6Vote.f okV
  rw [w64 (n := (s.length : Int) - 1) (by omega) (by omega)]
  simp only [l1In_f, Option.bind_some]
  by_cases h1 : inn a 0 ((s.length : Int) - 1) = true
  · rw [if_pos h1, h1, Bool.true_and]
    by_cases h2 : inn b 1 4000 = true
    · rw [if_pos h2, h2, Bool.true_and]
      by_cases h3 : c ≥ 0
      · rw [if_pos h3]
        by_cases h4 : c < (l.length : Int)
        · rw [if_pos h4, if_pos (by omega), inn_t.2 ⟨by omega, by omega⟩, Bool.true_and]; rfl
        · rw [if_neg h4, show inn c 0 ((l.length : Int) - 1) = false from inn_f.2 (by omega)]; simp
      · rw [if_neg h3, show inn c 0 ((l.length : Int) - 1) = false from inn_f.2 (by omega)]; simp
    · rw [if_neg h2]; simp [h2]
  · rw [if_neg h1]; simp [h1]
theorem l6Less_f (a b : S67) : spec_l6Less.f a.f0 a.f1 a.f2 b.f0 b.f1 b.f2 = some (lessV a b) := by
  unfold spec_l6Less.f lessV
  split
  · split <;> rfl
  · rfl
theorem l6Both_f {k : Nat} {l : List S72} {s : List Int} (hl : l.length ≤ 100000000000000) (hs : s.length ≤ 100000000000000) (hk : l.length + s.length + 10 < k) : spec_l6Both.f k l s = some (both l s) := by
  unfold spec_l6Both.f both
  rw [GoodTreeS_f (by omega) (by omega)]
  simp only [Option.bind_some]
  by_cases h : good l = true
  · rw [if_pos h, GoodStakesS_f (by omega) (by omega), h]; rfl
  · rw [if_neg h]; simp [h]
theorem GoodPoolS_l0 {l : List S72} {s : List Int} {p : List S67} (hl : l.length ≤ 2000000) (hs : s.length ≤ 2000000) (hp : p.length ≤ 2000000) (d : Nat) : ∀ (k i : Nat), i + d = p.length → d + (l.length + s.length + 20) < k → spec_GoodPool.l0 k l s p (p.length : Int) i p = some (allB (fun i => nthOk l s p i && nthLess p i) i d && (both l s && decide (p.length ≤ 60))) := by
  induction d with
  | zero =>
    intro k i hi hk
    obtain ⟨k, rfl⟩ := step_k hk
    simp only [spec_GoodPool.l0]
    rw [if_neg (by omega), l6Both_f (by omega) (by omega) (by omega)]
    simp only [Option.bind_some, allB, Bool.true_and]
    by_cases h : both l s = true
    · rw [if_pos h, h, Bool.true_and, show decide ((p.length : Int) ≤ 60) = decide (p.length ≤ 60) from decide_eq_decide.2 (by omega)]
    · rw [if_neg h]; simp [h]
  | succ d ih =>
    intro k i hi hk
    obtain ⟨k, rfl⟩ := step_k hk
    simp only [spec_GoodPool.l0]
    rw [if_pos (by omega), if_pos (by omega), if_pos (by omega), l6Vote_f (by omega) (by omega)]
    simp only [Option.bind_some, allB]
    rw [show okV l s ⟨(rd_T67 p (i : Int)).f0, (rd_T67 p (i : Int)).f1, (rd_T67 p (i : Int)).f2⟩ = nthOk l s p i from rfl]
    by_cases h1 : nthOk l s p i = true
    · rw [if_pos h1, h1, Bool.true_and]
      by_cases h0 : (i : Int) > 0
      · rw [if_pos h0, w64 (n := (i : Int) - 1) (by omega) (by omega), if_pos (by omega), if_pos (by omega), l6Less_f]
        simp only [Option.bind_some]
        have e : nthLess p i = lessV (rd_T67 p ((i : Int) - 1)) (rd_T67 p (i : Int)) := by
          unfold nthLess; simp [show i ≠ 0 by omega]
        rw [e]
        by_cases h2 : lessV (rd_T67 p ((i : Int) - 1)) (rd_T67 p (i : Int)) = true
        · rw [if_pos h2, h2, w64s (by omega), ih k (i + 1) (by omega) (by omega)]; simp
        · rw [if_neg h2]; simp [h2]
      · have e : nthLess p i = true := by unfold nthLess; simp [show i = 0 by omega]
        rw [if_neg h0, e, w64s (by omega), ih k (i + 1) (by omega) (by omega)]; simp
    · rw [if_neg h1]; simp [h1]
theorem GoodPoolS_f {k : Nat} {l : List S72} {s : List Int} {p : List S67} (hl : l.length ≤ 2000000) (hs : s.length ≤ 2000000) (hp : p.length ≤ 2000000) (hk : p.length + (l.length + s.length + 20) < k) : spec_GoodPool.f k l s p = some (pool l s p) := by
  unfold spec_GoodPool.f
  rw [show (0 : Int) = ((0 : Nat) : Int) from rfl, GoodPoolS_l0 hl hs hp p.length k 0 (by omega) (by omega), allB_and]
  unfold pool
  congr 1
  cases allB (nthOk l s p) 0 p.length <;> cases allB (nthLess p) 0 p.length <;> cases both l s <;> simp
theorem isVote_f {l : List S72} {s : List Int} {a b c : Int} (hl : l.length ≤ 100000000000000) (hs : s.length ≤ 100000000000000) : impl_isVote.f l s a b c = some (okV l s ⟨a, b, c⟩) := by
  unfold impl_isVote.f okV
  rw [w64 (n := (s.length : Int) - 1) (by omega) (by omega), w64 (n := (l.length : Int) - 1) (by omega) (by omega)]
  simp only [within_f, Option.bind_some]
  by_cases h1 : inn a 0 ((s.length : Int) - 1) = true
  · rw [if_pos h1, h1, Bool.true_and]
    by_cases h2 : inn b 1 4000 = true
    · rw [if_pos h2, h2, Bool.true_and]
      by_cases h3 : inn c 0 ((l.length : Int) - 1) = true
      · have h4 := inn_t.1 h3
        rw [if_pos h3, h3, Bool.true_and, if_pos (by omega), if_pos (by omega)]; rfl
      · rw [if_neg h3]; simp [h3]
    · rw [if_neg h2]; simp [h2]
  · rw [if_neg h1]; simp [h1]
theorem areBoth_f {k : Nat} {l : List S72} {s : List Int} (hl : l.length ≤ 100000000000000) (hs : s.length ≤ 100000000000000) (hk : 100 < k) : impl_areBoth.f k l s = some (both l s) := by
  unfold impl_areBoth.f both
  rw [isTree_f (by omega) (by omega)]
  simp only [Option.bind_some]
  by_cases h : good l = true
  · rw [if_pos h, areStakes_f (by omega) (by omega), h]; rfl
  · rw [if_neg h]; simp [h]
theorem areVotes_l0 {l : List S72} {s : List Int} {p : List S67} (hl : l.length ≤ 2000000) (hs : s.length ≤ 2000000) (hp : p.length ≤ 2000000) (d : Nat) : ∀ (k i : Nat), i + d = p.length → d < k → impl_areVotes.l0 k l s p i = some (allB (nthOk l s p) i d) := by
  induction d with
  | zero =>
    intro k i hi hk
    obtain ⟨k, rfl⟩ := step_k hk
    simp only [impl_areVotes.l0]
    rw [if_neg (by omega)]; rfl
  | succ d ih =>
    intro k i hi hk
    obtain ⟨k, rfl⟩ := step_k hk
    simp only [impl_areVotes.l0]
    rw [if_pos (by omega), if_pos (by omega), isVote_f (by omega) (by omega)]
    simp only [Option.bind_some, allB]
    rw [show okV l s ⟨(rd_T67 p (i : Int)).f0, (rd_T67 p (i : Int)).f1, (rd_T67 p (i : Int)).f2⟩ = nthOk l s p i from rfl]
    by_cases h1 : nthOk l s p i = true
    · rw [if_pos h1, h1, Bool.true_and, w64s (by omega)]
      exact ih k (i + 1) (by omega) (by omega)
    · rw [if_neg h1, if_pos (by omega)]; simp [h1]
theorem areVotes_f {k : Nat} {l : List S72} {s : List Int} {p : List S67} (hl : l.length ≤ 2000000) (hs : s.length ≤ 2000000) (hp : p.length ≤ 2000000) (hk : p.length + 200 < k) : impl_areVotes.f k l s p = some (both l s && allB (nthOk l s p) 0 p.length) := by
  unfold impl_areVotes.f
  rw [areBoth_f (by omega) (by omega) (by omega)]
  simp only [Option.bind_some]
  by_cases h : both l s = true
  · rw [if_pos h, h, Bool.true_and]
    exact areVotes_l0 hl hs hp p.length k 0 (by omega) (by omega)
  · rw [if_neg h]; simp [h]
def cmpI (a b : Int) : Int := if a < b then -1 else if a > b then 1 else 0
theorem Compare_f (a b : Int) : cmp_Compare_int.f a b = some (cmpI a b) := by
  unfold cmp_Compare_int.f cmp_isNaN_int.f cmpI
  simp only [bne_self_eq_false, Option.bind_some, Bool.false_eq_true, if_false]
  split
  · rfl
  · split <;> rfl
theorem Or_f {k : Nat} (x y z : Int) (hk : 6 < k) : cmp_Or_int.f k [x, y, z] = some (if x = 0 then (if y = 0 then z else y) else x) := by
  obtain ⟨k, rfl⟩ : ∃ m, k = m + 4 := ⟨k - 4, by omega⟩
  unfold cmp_Or_int.f
  have h0 : rd [x, y, z] 0 = x := rfl
  have h1 : rd [x, y, z] 1 = y := rfl
  have h2 : rd [x, y, z] 2 = z := rfl
  simp only [cmp_Or_int.l0, List.length_cons, List.length_nil]
  by_cases hx : x = 0
  · rw [if_pos (by omega), if_pos (by omega), if_pos (by omega), h0, if_pos hx, w64 (n := 0 + 1) (by omega) (by omega), if_pos (by omega), if_pos (by omega), if_pos (by omega), show (0 : Int) + 1 = 1 from rfl, h1, if_pos hx]
    by_cases hy : y = 0
    · rw [if_pos hy, if_pos hy, w64 (n := 1 + 1) (by omega) (by omega), show (1 : Int) + 1 = 2 from rfl, if_pos (by omega), if_pos (by omega), if_pos (by omega), h2]
      by_cases hz : z = 0
      · rw [if_pos hz, w64 (n := 2 + 1) (by omega) (by omega), if_neg (by omega), hz]
      · rw [if_neg hz]
    · rw [if_neg hy, if_neg hy]
  · rw [if_pos (by omega), if_pos (by omega), if_pos (by omega), h0, if_neg hx, if_neg hx]
def cmpV (a b : S67) : Int := if cmpI a.f0 b.f0 = 0 then (if cmpI a.f1 b.f1 = 0 then cmpI a.f2 b.f2 else cmpI a.f1 b.f1) else cmpI a.f0 b.f0
theorem compareVotes_f {k : Nat} (a b : S67) (hk : 10 < k) : impl_compareVotes.f k a.f0 a.f1 a.f2 b.f0 b.f1 b.f2 = some (cmpV a b) := by
  unfold impl_compareVotes.f cmpV
  simp only [Compare_f, Option.bind_some]
  rw [Or_f _ _ _ (by omega)]; rfl
theorem cmpI_zero {a b : Int} : cmpI a b = 0 ↔ a = b := by unfold cmpI; split <;> (try split) <;> omega
theorem cmpI_ge {a b : Int} : cmpI a b ≥ 0 ↔ ¬ a < b := by unfold cmpI; split <;> (try split) <;> omega
theorem cmpV_ge (a b : S67) : cmpV a b ≥ 0 ↔ lessV a b = false := by
  unfold cmpV lessV
  by_cases h0 : a.f0 = b.f0
  · rw [if_pos (cmpI_zero.2 h0), if_pos h0]
    by_cases h1 : a.f1 = b.f1
    · rw [if_pos (cmpI_zero.2 h1), if_pos h1, cmpI_ge, decide_eq_false_iff_not]
    · rw [if_neg (fun h => h1 (cmpI_zero.1 h)), if_neg h1, cmpI_ge, decide_eq_false_iff_not]
  · rw [if_neg (fun h => h0 (cmpI_zero.1 h)), if_neg h0, cmpI_ge, decide_eq_false_iff_not]
theorem isPool_l0 {p : List S67} (hp : p.length ≤ 2000000) (d : Nat) : ∀ (k i : Nat), i + 1 + d = p.length → d + 20 < k → impl_isPool.l0 k ((i + 1 : Nat) : Int) p = some (allB (nthLess p) (i + 1) d) := by
  induction d with
  | zero =>
    intro k i hi hk
    obtain ⟨k, rfl⟩ := step_k hk
    simp only [impl_isPool.l0]
    rw [if_neg (by omega)]; rfl
  | succ d ih =>
    intro k i hi hk
    obtain ⟨k, rfl⟩ := step_k hk
    simp only [impl_isPool.l0, allB]
    rw [w64 (n := ((i + 1 : Nat) : Int) - 1) (by omega) (by omega), if_pos (by omega), if_pos (by omega), if_pos (by omega), if_pos (by omega), compareVotes_f _ _ (by omega)]
    simp only [Option.bind_some]
    have e : nthLess p (i + 1) = lessV (rd_T67 p (((i + 1 : Nat) : Int) - 1)) (rd_T67 p ((i + 1 : Nat) : Int)) := by
      unfold nthLess; simp
    rw [e]
    by_cases h : lessV (rd_T67 p (((i + 1 : Nat) : Int) - 1)) (rd_T67 p ((i + 1 : Nat) : Int)) = true
    · rw [if_neg (fun h2 => by rw [(cmpV_ge _ _).1 h2] at h; cases h), h, Bool.true_and, w64s (by omega)]
      exact ih k (i + 1) (by omega) (by omega)
    · rw [if_pos ((cmpV_ge _ _).2 (Bool.eq_false_iff.2 h)), Bool.eq_false_iff.2 h, Bool.false_and]
theorem isPool_f {k : Nat} {l : List S72} {s : List Int} {p : List S67} (hl : l.length ≤ 2000000) (hs : s.length ≤ 2000000) (hp : p.length ≤ 2000000) (hk : p.length + 300 < k) : impl_isPool.f k l s p = some (pool l s p) := by
  unfold impl_isPool.f pool
  obtain ⟨k, rfl⟩ : ∃ m, k = m + 1 := ⟨k - 1, by omega⟩
  simp only [impl_isPool.j0]
  by_cases h : (p.length : Int) > 60
  · rw [if_pos h, if_pos trivial, show decide (p.length ≤ 60) = false from decide_eq_false (by omega)]; simp
  · rw [if_neg h, areVotes_f hl hs hp (by omega), show decide (p.length ≤ 60) = true from decide_eq_true (by omega)]
    simp only [Option.bind_some, Bool.true_and]
    cases h1 : both l s
    · simp
    cases h2 : allB (nthOk l s p) 0 p.length
    · simp
    simp only [Bool.true_and, Bool.not_true, Bool.false_eq_true, if_false]
    by_cases h0 : p.length = 0
    · obtain ⟨k, rfl⟩ : ∃ m, k = m + 1 := ⟨k - 1, by omega⟩
      simp only [impl_isPool.l0]
      rw [if_neg (by omega), h0]; rfl
    · obtain ⟨n, hn⟩ : ∃ n, p.length = n + 1 := ⟨p.length - 1, by omega⟩
      have := isPool_l0 hp n k 0 (by omega) (by omega)
      rw [show ((0 + 1 : Nat) : Int) = 1 from rfl] at this
      rw [this, hn]
      have e : nthLess p 0 = true := by unfold nthLess; simp
      simp only [allB, e, Bool.true_and]
theorem sorted_ext : ∀ (a b : List Int), a.Pairwise (· < ·) → b.Pairwise (· < ·) → (∀ x, x ∈ a ↔ x ∈ b) → a = b := by
  intro a
  induction a with
  | nil =>
    intro b _ _ h
    cases b with
    | nil => rfl
    | cons y b => exact absurd ((h y).2 (by simp)) (by simp)
  | cons x a ih =>
    intro b ha hb h
    cases b with
    | nil => exact absurd ((h x).1 (by simp)) (by simp)
    | cons y b =>
      rw [List.pairwise_cons] at ha hb
      have e : x = y := by
        have h1 := (h x).1 (by simp)
        have h2 := (h y).2 (by simp)
        rcases List.mem_cons.1 h1 with h1 | h1
        · exact h1
        · rcases List.mem_cons.1 h2 with h2 | h2
          · exact h2.symm
          · have := ha.1 y h2; have := hb.1 x h1; omega
      subst e
      congr 1
      refine ih b ha.2 hb.2 fun z => ⟨fun hz => ?_, fun hz => ?_⟩
      · rcases List.mem_cons.1 ((h z).1 (List.mem_cons_of_mem _ hz)) with h1 | h1
        · have := ha.1 z hz; omega
        · exact h1
      · rcases List.mem_cons.1 ((h z).2 (List.mem_cons_of_mem _ hz)) with h1 | h1
        · have := hb.1 z hz; omega
        · exact h1
theorem rd_getElem (l : List Int) (i : Nat) (h : i < l.length) : rd l (i : Int) = l[i] := by
  rw [rd_eq, List.getD_eq_getElem?_getD, List.getElem?_eq_getElem h]; rfl
/-- A number put to its place in a rising list, once. -/
def insS : List Int → Int → List Int
  | [], n => [n]
  | x :: xs, n => if x < n then x :: insS xs n else if x = n then x :: xs else n :: x :: xs
theorem insS_mem (l : List Int) (n y : Int) : y ∈ insS l n ↔ y = n ∨ y ∈ l := by
  induction l with
  | nil => simp [insS]
  | cons x xs ih =>
    simp only [insS]
    split
    · rw [List.mem_cons, ih, List.mem_cons]; constructor
      · rintro (h | h | h)
        · exact .inr (.inl h)
        · exact .inl h
        · exact .inr (.inr h)
      · rintro (h | h | h)
        · exact .inr (.inl h)
        · exact .inl h
        · exact .inr (.inr h)
    · split
      · rename_i h; subst h; simp
      · simp
theorem insS_sorted (l : List Int) (n : Int) (h : l.Pairwise (· < ·)) : (insS l n).Pairwise (· < ·) := by
  induction l with
  | nil => simp [insS]
  | cons x xs ih =>
    rw [List.pairwise_cons] at h
    simp only [insS]
    split
    · rename_i hx
      rw [List.pairwise_cons]
      refine ⟨fun y hy => ?_, ih h.2⟩
      rcases (insS_mem xs n y).1 hy with rfl | hy
      · exact hx
      · exact h.1 y hy
    · split
      · rw [List.pairwise_cons]; exact h
      · rw [List.pairwise_cons, List.pairwise_cons]
        refine ⟨fun y hy => ?_, h⟩
        rcases List.mem_cons.1 hy with rfl | hy
        · omega
        · have := h.1 y hy; omega
theorem insS_len (l : List Int) (n : Int) : (insS l n).length ≤ l.length + 1 := by
  induction l with
  | nil => simp [insS]
  | cons x xs ih =>
    simp only [insS]
    split
    · simp only [List.length_cons]; omega
    · split <;> simp
theorem rd_mid (pre : List Int) (x : Int) (post : List Int) : rd (pre ++ x :: post) (pre.length : Int) = x := by
  simp [rd, List.getD_eq_getElem?_getD]
theorem l1Put_l0 (n : Int) (suf : List Int) : ∀ (pre : List Int) (k : Nat), pre.length + suf.length ≤ 100000 → suf.length < k → spec_l1Put.l0 k (pre ++ suf) n (pre.length : Int) = some (pre ++ insS suf n) := by
  induction suf with
  | nil =>
    intro pre k hl hk
    obtain ⟨k, rfl⟩ := step_k hk
    simp only [spec_l1Put.l0, Option.bind_some, List.append_nil, List.nil_append, Int.toNat_natCast, List.take_length, List.drop_length]
    simp only [List.length_nil] at hl
    rw [if_neg (by omega), if_pos (by omega), if_pos (by omega), if_pos (by simp; omega), if_pos (by omega), if_pos (by simp; omega)]
    rfl
  | cons x xs ih =>
    intro pre k hl hk
    obtain ⟨k, rfl⟩ := step_k hk
    simp only [List.length_cons] at hl hk
    have htk : (pre ++ x :: xs).take pre.length = pre := by simp
    have hdr : (pre ++ x :: xs).drop pre.length = x :: xs := by simp
    simp only [spec_l1Put.l0, Option.bind_some, List.nil_append, Int.toNat_natCast, htk, hdr]
    rw [if_pos (by simp; omega), if_pos (by omega), rd_mid]
    simp only [insS]
    by_cases h1 : x < n
    · rw [if_pos h1, if_pos h1, w64s (by omega)]
      have := ih (pre ++ [x]) k (by simp; omega) (by omega)
      rw [List.length_append, List.length_singleton, List.append_assoc, List.singleton_append, List.append_assoc, List.singleton_append] at this
      exact this
    · rw [if_neg h1, if_neg h1]
      by_cases h2 : x = n
      · rw [if_pos h2, if_pos h2]
      · rw [if_neg h2, if_neg h2, if_pos (by simp; omega), if_pos (by simp; omega), if_pos (by omega), if_pos (by simp; omega)]
        simp
theorem l1Put_f {k : Nat} {l : List Int} {n : Int} (hl : l.length ≤ 100000) (hk : l.length < k) : spec_l1Put.f k l n = some (insS l n) := by
  unfold spec_l1Put.f
  exact l1Put_l0 n l [] k (by simpa using hl) hk
def insAll (acc : List Int) (l : List Int) : List Int := l.foldl insS acc
theorem insAll_mem (l : List Int) : ∀ (acc : List Int) (y : Int), y ∈ insAll acc l ↔ y ∈ acc ∨ y ∈ l := by
  induction l with
  | nil => intro acc y; simp [insAll]
  | cons x xs ih =>
    intro acc y
    show y ∈ insAll (insS acc x) xs ↔ _
    rw [ih, insS_mem, List.mem_cons]
    constructor
    · rintro ((h | h) | h)
      · exact .inr (.inl h)
      · exact .inl h
      · exact .inr (.inr h)
    · rintro (h | h | h)
      · exact .inl (.inr h)
      · exact .inl (.inl h)
      · exact .inr h
theorem insAll_sorted (l : List Int) : ∀ acc : List Int, acc.Pairwise (· < ·) → (insAll acc l).Pairwise (· < ·) := by
  induction l with
  | nil => intro acc h; exact h
  | cons x xs ih => intro acc h; exact ih _ (insS_sorted acc x h)
theorem insAll_len (l : List Int) : ∀ acc : List Int, (insAll acc l).length ≤ acc.length + l.length := by
  induction l with
  | nil => intro acc; exact Nat.le_refl _
  | cons x xs ih =>
    intro acc
    have h1 := ih (insS acc x)
    have h2 := insS_len acc x
    show (insAll (insS acc x) xs).length ≤ _
    simp only [List.length_cons]; omega
def who (p : List S67) (i : Nat) : Int := (rd_T67 p (i : Int)).f0
def twice (p : List S67) (i : Nat) : Bool := decide ((rd_T67 p ((i : Int) - 1)).f0 = (rd_T67 p (i : Int)).f0 ∧ (rd_T67 p ((i : Int) - 1)).f1 = (rd_T67 p (i : Int)).f1)
/-- Who voted twice in a slot, as often as that is so. -/
def dups (p : List S67) : Nat → Nat → List Int
  | _, 0 => []
  | i, d + 1 => if twice p i then who p i :: dups p (i + 1) d else dups p (i + 1) d
theorem dups_len (p : List S67) : ∀ d i, (dups p i d).length ≤ d := by
  intro d
  induction d with
  | zero => intro i; simp [dups]
  | succ d ih =>
    intro i
    have := ih (i + 1)
    simp only [dups]
    split
    · simp only [List.length_cons]; omega
    · omega
theorem who_rise {l : List S72} {s : List Int} {p : List S67} (h : pool l s p = true) {j : Nat} (hj : j + 1 < p.length) : who p j ≤ who p (j + 1) := by
  have := (pool_iff.1 h).2.2.2.2 j hj
  unfold who
  unfold lessV at this
  split at this
  · omega
  · have := of_decide_eq_true this; omega
theorem dups_ge {l : List S72} {s : List Int} {p : List S67} (h : pool l s p = true) : ∀ d i, i + d ≤ p.length → ∀ x ∈ dups p i d, who p i ≤ x := by
  intro d
  induction d with
  | zero => intro i _; simp [dups]
  | succ d ih =>
    intro i hi x hx
    have key : ∀ x ∈ dups p (i + 1) d, who p i ≤ x := by
      intro x hx
      cases d with
      | zero => simp [dups] at hx
      | succ d =>
        have h1 := ih (i + 1) (by omega) x hx
        have h2 := who_rise h (j := i) (by omega)
        omega
    simp only [dups] at hx
    split at hx
    · rcases List.mem_cons.1 hx with rfl | hx
      · exact Int.le_refl _
      · exact key x hx
    · exact key x hx
theorem dups_sorted {l : List S72} {s : List Int} {p : List S67} (h : pool l s p = true) : ∀ d i, i + d ≤ p.length → (dups p i d).Pairwise (· ≤ ·) := by
  intro d
  induction d with
  | zero => intro i _; simp [dups]
  | succ d ih =>
    intro i hi
    simp only [dups]
    split
    · rw [List.pairwise_cons]
      refine ⟨fun x hx => ?_, ih (i + 1) (by omega)⟩
      cases d with
      | zero => simp [dups] at hx
      | succ d =>
        have h1 := dups_ge h (d + 1) (i + 1) (by omega) x hx
        have h2 := who_rise h (j := i) (by omega)
        omega
    · exact ih (i + 1) (by omega)
theorem compact_up (D : List Int) (hD : ∀ i j, i ≤ j → j < D.length → D.toArray[i]! ≤ D.toArray[j]!) : ∀ m, m ≤ D.length → (Go.Lib.compactUpTo D.toArray m).Pairwise (· < ·) ∧ ∀ x, x ∈ Go.Lib.compactUpTo D.toArray m ↔ ∃ j, j < m ∧ D.toArray[j]! = x := by
  intro m
  induction m with
  | zero => intro _; exact ⟨by simp [Go.Lib.compactUpTo], fun x => by simp [Go.Lib.compactUpTo]⟩
  | succ m ih =>
    intro hm
    obtain ⟨h1, h2⟩ := ih (by omega)
    rw [Go.Lib.compactUpTo_succ]
    by_cases hk : Go.Lib.keeps D.toArray m = true
    · rw [if_pos hk]
      refine ⟨?_, fun x => ?_⟩
      · rw [List.pairwise_append]
        refine ⟨h1, by simp, fun x hx y hy => ?_⟩
        rw [List.mem_singleton] at hy
        subst hy
        obtain ⟨j, hj, rfl⟩ := (h2 x).1 hx
        have hk2 := of_decide_eq_true hk
        rcases hk2 with hk2 | hk2
        · omega
        · have e1 := hD j (m - 1) (by omega) (by omega)
          have e2 := hD (m - 1) m (by omega) (by omega)
          omega
      · rw [List.mem_append, h2, List.mem_singleton]
        constructor
        · rintro (⟨j, hj, e⟩ | e)
          · exact ⟨j, by omega, e⟩
          · exact ⟨m, by omega, e.symm⟩
        · rintro ⟨j, hj, e⟩
          by_cases e2 : j = m
          · subst e2; exact .inr e.symm
          · exact .inl ⟨j, by omega, e⟩
    · rw [if_neg hk, List.append_nil]
      refine ⟨h1, fun x => ?_⟩
      rw [h2]
      have hk2 := of_decide_eq_false (Bool.eq_false_iff.2 hk)
      constructor
      · rintro ⟨j, hj, e⟩; exact ⟨j, by omega, e⟩
      · rintro ⟨j, hj, e⟩
        by_cases e2 : j = m
        · subst e2
          have h0 : j ≠ 0 := fun h => hk2 (.inl h)
          have h3 : D.toArray[j]! = D.toArray[j - 1]! := by
            by_cases h4 : D.toArray[j]! = D.toArray[j - 1]!
            · exact h4
            · exact absurd (.inr h4) hk2
          exact ⟨j - 1, by omega, by rw [← h3]; exact e⟩
        · exact ⟨j, by omega, e⟩
theorem compact_ins (D : List Int) (hD : D.Pairwise (· ≤ ·)) : Go.Lib.compact D = insAll [] D := by
  have hget : ∀ j, j < D.length → D.toArray[j]! = D.getD j 0 := by
    intro j hj
    simp [List.getD_eq_getElem?_getD, hj]
  have hs : ∀ i j, i ≤ j → j < D.length → D.toArray[i]! ≤ D.toArray[j]! := by
    intro i j hij hj
    rw [hget i (by omega), hget j hj, List.getD_eq_getElem?_getD, List.getD_eq_getElem?_getD, List.getElem?_eq_getElem (by omega), List.getElem?_eq_getElem hj]
    by_cases e : i = j
    · subst e; exact Int.le_refl _
    · exact List.pairwise_iff_getElem.1 hD i j (by omega) hj (by omega)
  obtain ⟨h1, h2⟩ := compact_up D hs D.length (Nat.le_refl _)
  refine sorted_ext _ _ h1 (insAll_sorted _ _ List.Pairwise.nil) fun x => ?_
  show x ∈ Go.Lib.compactUpTo D.toArray D.length ↔ _
  rw [h2, insAll_mem]
  constructor
  · rintro ⟨j, hj, e⟩
    refine .inr ?_
    rw [hget j hj, List.getD_eq_getElem?_getD, List.getElem?_eq_getElem hj] at e
    rw [← e]; exact List.getElem_mem hj
  · rintro (h | h)
    · simp at h
    · obtain ⟨j, hj, e⟩ := List.mem_iff_getElem.1 h
      exact ⟨j, hj, by rw [hget j hj, List.getD_eq_getElem?_getD, List.getElem?_eq_getElem hj]; exact e⟩
def liars (p : List S67) : List Int := insAll [] (dups p 1 (p.length - 1))
theorem liars_len (p : List S67) : (liars p).length ≤ p.length := by
  have h1 := insAll_len (dups p 1 (p.length - 1)) []
  have h2 := dups_len p (p.length - 1) 1
  unfold liars
  simp only [List.length_nil] at h1
  omega
theorem l6Liars_l0 (p : List S67) (hp : p.length ≤ 60) (d : Nat) : ∀ (k i : Nat) (acc : List Int), i + 1 + d = p.length → acc.length ≤ i → d + 200 < k → spec_l6Liars.l0 k p acc p (p.length : Int) ((i + 1 : Nat) : Int) = some (insAll acc (dups p (i + 1) d)) := by
  induction d with
  | zero =>
    intro k i acc hi ha hk
    obtain ⟨k, rfl⟩ := step_k hk
    simp only [spec_l6Liars.l0]
    rw [if_neg (by omega)]; rfl
  | succ d ih =>
    intro k i acc hi ha hk
    obtain ⟨k, rfl⟩ := step_k hk
    have h2 := insS_len acc (who p (i + 1))
    simp only [spec_l6Liars.l0, dups]
    rw [w64 (n := ((i + 1 : Nat) : Int) - 1) (by omega) (by omega), if_pos (by omega), if_pos (by omega), if_pos (by omega), if_pos (by omega), if_pos (by omega), if_pos (by omega), w64s (by omega)]
    by_cases h3 : (rd_T67 p (((i + 1 : Nat) : Int) - 1)).f0 = (rd_T67 p ((i + 1 : Nat) : Int)).f0
    · rw [if_pos h3]
      by_cases h4 : (rd_T67 p (((i + 1 : Nat) : Int) - 1)).f1 = (rd_T67 p ((i + 1 : Nat) : Int)).f1
      · rw [if_pos h4, if_pos (show twice p (i + 1) = true from decide_eq_true ⟨h3, h4⟩), l1Put_f (by omega) (by omega)]
        simp only [Option.bind_some]
        exact ih k (i + 1) _ (by omega) (by show (insS acc (who p (i + 1))).length ≤ _; omega) (by omega)
      · rw [if_neg h4, if_neg (show ¬ twice p (i + 1) = true from fun h => h4 (of_decide_eq_true h).2)]
        exact ih k (i + 1) _ (by omega) (by omega) (by omega)
    · rw [if_neg h3, if_neg (show ¬ twice p (i + 1) = true from fun h => h3 (of_decide_eq_true h).1)]
      exact ih k (i + 1) _ (by omega) (by omega) (by omega)
theorem l6Liars_f {k : Nat} {p : List S67} (hp : p.length ≤ 60) (hk : 1000 < k) : spec_l6Liars.f k p = some (liars p) := by
  unfold spec_l6Liars.f liars
  obtain ⟨k, rfl⟩ : ∃ m, k = m + 1 := ⟨k - 1, by omega⟩
  by_cases h0 : p.length = 0
  · simp only [spec_l6Liars.l0]
    rw [if_neg (by omega), h0]; rfl
  · obtain ⟨n, hn⟩ : ∃ n, p.length = n + 1 := ⟨p.length - 1, by omega⟩
    have := l6Liars_l0 p hp n k 0 [] (by omega) (by simp) (by omega)
    simp only [spec_l6Liars.l0]
    rw [if_pos (by omega), if_pos (by omega), if_pos (by omega), if_neg (by omega), w64 (by omega) (by omega), show (0 : Int) + 1 = ((0 + 1 : Nat) : Int) from rfl, this, show p.length - 1 = n by omega]
theorem liarsIn_l0 (p : List S67) (hp : p.length ≤ 60) (d : Nat) : ∀ (k i : Nat) (acc : List Int), i + 1 + d = p.length → acc.length ≤ i → d + 200 < k → impl_liarsIn.l0 k acc ((i + 1 : Nat) : Int) p = some (Go.Lib.compact (acc ++ dups p (i + 1) d)) := by
  induction d with
  | zero =>
    intro k i acc hi ha hk
    obtain ⟨k, rfl⟩ := step_k hk
    simp only [impl_liarsIn.l0]
    rw [if_neg (by omega)]
    unfold slices_Compact_int_int.f
    rw [if_pos (by omega)]
    simp [dups]
  | succ d ih =>
    intro k i acc hi ha hk
    obtain ⟨k, rfl⟩ := step_k hk
    simp only [impl_liarsIn.l0, dups]
    rw [w64 (n := ((i + 1 : Nat) : Int) - 1) (by omega) (by omega), if_pos (by omega), if_pos (by omega), if_pos (by omega), if_pos (by omega), w64s (by omega)]
    by_cases h3 : (rd_T67 p (((i + 1 : Nat) : Int) - 1)).f0 = (rd_T67 p ((i + 1 : Nat) : Int)).f0
    · rw [if_pos h3]
      by_cases h4 : (rd_T67 p (((i + 1 : Nat) : Int) - 1)).f1 = (rd_T67 p ((i + 1 : Nat) : Int)).f1
      · rw [if_pos h4, if_pos (show twice p (i + 1) = true from decide_eq_true ⟨h3, h4⟩), if_pos (by omega)]
        have := ih k (i + 1) (acc ++ [(rd_T67 p ((i + 1 : Nat) : Int)).f0]) (by omega) (by simp; omega) (by omega)
        rw [List.append_assoc, List.singleton_append] at this
        exact this
      · rw [if_neg h4, if_neg (show ¬ twice p (i + 1) = true from fun h => h4 (of_decide_eq_true h).2)]
        exact ih k (i + 1) _ (by omega) (by omega) (by omega)
    · rw [if_neg h3, if_neg (show ¬ twice p (i + 1) = true from fun h => h3 (of_decide_eq_true h).1)]
      exact ih k (i + 1) _ (by omega) (by omega) (by omega)
theorem liarsIn_f {k : Nat} {l : List S72} {s : List Int} {p : List S67} (h : pool l s p = true) (hk : 1000 < k) : impl_liarsIn.f k p = some (liars p) := by
  have hp := (pool_iff.1 h).1
  unfold impl_liarsIn.f liars
  by_cases h0 : p.length = 0
  · obtain ⟨k, rfl⟩ : ∃ m, k = m + 1 := ⟨k - 1, by omega⟩
    simp only [impl_liarsIn.l0]
    rw [if_neg (by omega), h0]
    unfold slices_Compact_int_int.f
    rw [if_pos (by simp)]; rfl
  · obtain ⟨n, hn⟩ : ∃ n, p.length = n + 1 := ⟨p.length - 1, by omega⟩
    have := liarsIn_l0 p hp n k 0 [] (by omega) (by simp) (by omega)
    rw [show ((0 + 1 : Nat) : Int) = 1 from rfl, List.nil_append] at this
    rw [this, show p.length - 1 = n by omega, compact_ins _ (dups_sorted h n 1 (by omega))]
def res (l : List S72) (s : List Int) (p : List S67) : List Int × Bool := if pool l s p then (liars p, true) else ([], false)
theorem res_len (l : List S72) (s : List Int) (p : List S67) : (res l s p).1.length ≤ 100 := by
  unfold res
  split
  · rename_i h
    have h1 := (pool_iff.1 h).1
    have h2 := liars_len p
    show (liars p).length ≤ 100; omega
  · simp
theorem spec_LiarsIn_f {k : Nat} {l : List S72} {s : List Int} {p : List S67} (hl : l.length ≤ 1048576) (hs : s.length ≤ 1048576) (hp : p.length ≤ 1048576) (hk : 3999990 < k) : spec_LiarsIn.f k l s p = some (res l s p) := by
  unfold spec_LiarsIn.f res
  rw [GoodPoolS_f (by omega) (by omega) (by omega) (by omega)]
  simp only [Option.bind_some]
  by_cases h : pool l s p = true
  · have h1 := (pool_iff.1 h).1
    rw [if_pos h, if_pos h, l6Liars_f h1 (by omega)]; rfl
  · rw [if_neg h, if_neg h]
theorem impl_LiarsIn_f {k : Nat} {l : List S72} {s : List Int} {p : List S67} (hl : l.length ≤ 1048576) (hs : s.length ≤ 1048576) (hp : p.length ≤ 1048576) (hk : 3999990 < k) : impl_LiarsIn.f k l s p = some (res l s p) := by
  unfold impl_LiarsIn.f res
  rw [isPool_f (by omega) (by omega) (by omega) (by omega)]
  simp only [Option.bind_some]
  by_cases h : pool l s p = true
  · rw [if_pos h, if_pos h, liarsIn_f h (by omega)]; rfl
  · rw [if_neg h, if_neg h]
theorem FnExactLiarsIn : ∀ (l0 : List (S74)) (l1 : List (Int)) (l2 : List (S93)), l0.length * 16 ≤ 140737488351232 → (∀ v ∈ l0, (Lit.int .i64 v.f0).wf = true ∧ (Lit.int .i64 v.f1).wf = true) → l1.length * 8 ≤ 140737488351232 → (∀ v ∈ l1, (Lit.int .i64 v).wf = true) → l2.length * 24 ≤ 140737488351232 → (∀ v ∈ l2, (Lit.int .i64 v.f0).wf = true ∧ (Lit.int .i64 v.f1).wf = true ∧ (Lit.int .i64 v.f2).wf = true) → ∃ k, laws_FnExactLiarsIn.f k l0 l1 l2 = some true := by
  intro l s p  hl
  intros
  suffices h : ∀ k, 4000010 ≤ k → laws_FnExactLiarsIn.f k l s p  = some true from ⟨_, h _ (Nat.le_refl _)⟩
  intro k hk
  have hm : (l.map cvB).length = l.length := by simp
  have hm2 : (p.map cvV).length = p.length := by simp
  unfold laws_FnExactLiarsIn.f
  by_cases h0 : (s.length : Int) > 1048576
  · rw [if_pos h0]
  · rw [if_neg h0]
    simp (disch := omega) only [szBlockS_f, Option.bind_some]
    by_cases h : (1048576 : Int) < l.length
    · rw [if_pos h, if_pos (by omega)]
    · rw [if_neg h, if_neg (by omega), szPool_f (by omega) (by omega) (by omega)]
      simp only [Option.bind_some]
      by_cases h2 : (1048576 : Int) - l.length < p.length
      · rw [if_pos h2, if_pos (by omega)]
      · rw [if_neg h2, if_neg (by omega)]
        obtain ⟨m, hm1, hm2'⟩ : ∃ m, k = m + 3 ∧ 4000000 ≤ m := ⟨k - 3, by omega, by omega⟩
        rw [hm1]
        have hl2 := res_len (l.map cvB) s (p.map cvV) 
        have hneg : (1 + ((res (l.map cvB) s (p.map cvV) ).1.length : Int) < 0) = False := eq_false (by omega)
        obtain ⟨mm, hmm⟩ := markPool_f (k := m + 2) (l := p.map cvV) (a := 1 + 2 * ((l.map cvB).length : Int) + (s.length : Int)) (by omega) (by omega) (by omega) (by omega)
        simp (maxSteps := 4000000) (disch := omega) only [toBlockS_f, toIntS_f, toPool_f, spec_LiarsIn_f, impl_LiarsIn_f, eqBlockS_f, eqIntS_f, eqPool_f, markBlockS_f, markIntS_f, hmm, Option.bind_some, bne_self_eq_false, laws_FnExactLiarsIn.j0, Bool.false_eq_true, if_false, if_true]
        rw [if_neg (by omega)]
        simp (maxSteps := 4000000) (disch := omega) only [toBlockS_f, toIntS_f, toPool_f, impl_LiarsIn_f, eqIntS_f, markIntS_f, heldIntS_f, Option.bind_some, bne_self_eq_false, laws_FnExactLiarsIn.j1, laws_FnExactLiarsIn.j2, Bool.false_eq_true, if_false, if_true, hneg]

end Go.Proofs.Ytbkdgobgjebjkaa.Pure
