/- The program's LeavesOf and the reference's return the same at every list of blocks, in memory of their own, and leave the list as it is. No condition. -/
import Derived.Test.YtinhgkemalogiaaPFnExactLeavesOfx0
import Derived.Test.YtinhgkemalogiaaPFnExactLeavesOfx1
import Derived.Test.YtinhgkemalogiaaPFnExactLeavesOfx2
import Derived.Test.YtinhgkemalogiaaPFnExactLeavesOfx3
import Derived.Test.YtinhgkemalogiaaPFnExactLeavesOfx4
import Derived.Test.YtinhgkemalogiaaPFnExactLeavesOfx5
namespace Go.Proofs.Ytinhgkemalogiaa.Pure
open Go.RowKit Go.Proofs.Ytinhgkemalogiaa.PFnExactLeavesOf Go.Proofs.YtinhgkemalogiaaW.PrintWords Go.Proofs.YtinhgkemalogiaaW.PrintLast Go.Proofs.YtinhgkemalogiaaW.PrintMore
set_option linter.unusedVariables false
set_option linter.unusedSimpArgs false
theorem w64 {n : Int} (h0 : -9223372036854775808 ≤ n) (h1 : n ≤ 9223372036854775807) : wrap64 n = n := by unfold wrap64; omega
theorem w64s {i : Nat} (h1 : i ≤ 1000000000000000) : wrap64 ((i : Int) + 1) = ((i + 1 : Nat) : Int) := by rw [w64 (by omega) (by omega)]; omega
theorem rd_eq (l : List Int) (i : Nat) : rd l (i : Int) = l.getD i 0 := by simp [rd]
theorem rd_get (l : List Int) (i : Nat) (h : i < l.length) : l[i]? = some (rd l (i : Int)) := by
  simp [rd, List.getD_eq_getElem?_getD, List.getElem?_eq_getElem h]
theorem rd_mem (l : List Int) (i : Nat) (h : i < l.length) : rd l (i : Int) ∈ l := List.mem_of_getElem? (rd_get l i h)
theorem step_k {k d : Nat} (h : d < k) : ∃ m, k = m + 1 := ⟨k - 1, by omega⟩
def inn (a b c : Int) : Bool := decide (b ≤ a ∧ a ≤ c)
theorem inn_t {a b c : Int} : inn a b c = true ↔ b ≤ a ∧ a ≤ c := by simp [inn]
theorem inn_f {a b c : Int} : inn a b c = false ↔ a < b ∨ c < a := by simp [inn]; omega
theorem l1In_f (a b c : Int) : spec_l1In.f a b c = some (inn a b c) := by
  unfold spec_l1In.f inn
  by_cases h : a ≥ b
  · rw [if_pos h]; simp [show b ≤ a from h]
  · rw [if_neg h]; simp [show ¬ b ≤ a from h]
theorem within_f (a b c : Int) : impl_within.f a b c = some (inn a b c) := by
  unfold impl_within.f inn
  by_cases h : a ≥ b
  · rw [if_pos h]; simp [show b ≤ a from h]
  · rw [if_neg h]; simp [show ¬ b ≤ a from h]
def par (l : List S54) (b : Int) : Int := (rd_T54 l b).f0
def slt (l : List S54) (b : Int) : Int := (rd_T54 l b).f1
/-- Block i is in its place. -/
def okB (l : List S54) (i : Nat) : Bool := if i = 0 then decide (par l 0 = -1) && decide (slt l 0 = 0) else inn (par l i) 0 ((i : Int) - 1) && inn (slt l i) (slt l (par l i) + 1) 4000
def okFrom (l : List S54) : Nat → Nat → Bool
  | _, 0 => true
  | i, d + 1 => okB l i && okFrom l (i + 1) d
def good (l : List S54) : Bool := inn (l.length : Int) 1 24 && okFrom l 0 l.length
theorem okFrom_iff (l : List S54) : ∀ d i, okFrom l i d = true ↔ ∀ j, i ≤ j → j < i + d → okB l j = true := by
  intro d
  induction d with
  | zero => intro i; simp only [okFrom, true_iff]; intro j h1 h2; omega
  | succ d ih =>
    intro i
    simp only [okFrom, Bool.and_eq_true, ih]
    constructor
    · rintro ⟨h1, h3⟩ j hj hj2
      by_cases e : j = i
      · subst e; exact h1
      · exact h3 j (by omega) (by omega)
    · intro h
      exact ⟨h i (Nat.le_refl _) (by omega), fun j hj hj2 => h j (by omega) (by omega)⟩
theorem okB_zero {l : List S54} : okB l 0 = true ↔ par l 0 = -1 ∧ slt l 0 = 0 := by simp [okB]
theorem okB_pos {l : List S54} {i : Nat} (h : i ≠ 0) : okB l i = true ↔ (0 ≤ par l i ∧ par l i ≤ (i : Int) - 1) ∧ slt l (par l i) + 1 ≤ slt l i ∧ slt l i ≤ 4000 := by
  simp only [okB, if_neg h, Bool.and_eq_true, inn_t]
/-- What is in its place has a slot from 0 to 4000. -/
theorem okB_slot (l : List S54) (n : Nat) (h : ∀ j, j < n → okB l j = true) : ∀ j, j < n → 0 ≤ slt l j ∧ slt l j ≤ 4000 := by
  intro j
  induction j using Nat.strongRecOn with
  | _ j ih =>
    intro hj
    have h1 := h j hj
    by_cases e : j = 0
    · subst e
      have h2 := (okB_zero.1 h1).2
      have e0 : ((0 : Nat) : Int) = 0 := rfl
      rw [e0]; omega
    · have h2 := (okB_pos e).1 h1
      have h3 := ih (par l j).toNat (by omega) (by omega)
      rw [show (((par l j).toNat : Nat) : Int) = par l j by omega] at h3
      omega
theorem good_len {l : List S54} (h : good l = true) : 1 ≤ l.length ∧ l.length ≤ 24 := by
  simp only [good, Bool.and_eq_true, inn_t] at h
  omega
theorem good_ok {l : List S54} (h : good l = true) : ∀ j, j < l.length → okB l j = true := by
  simp only [good, Bool.and_eq_true, okFrom_iff] at h
  exact fun j hj => h.2 j (by omega) (by omega)
theorem good_root {l : List S54} (h : good l = true) : par l 0 = -1 ∧ slt l 0 = 0 := okB_zero.1 (good_ok h 0 (by have := good_len h; omega))
theorem good_pos {l : List S54} (h : good l = true) {b : Int} (h0 : 0 < b) (h1 : b < l.length) : 0 ≤ par l b ∧ par l b < b ∧ slt l (par l b) < slt l b ∧ slt l b ≤ 4000 := by
  have h2 := (okB_pos (l := l) (i := b.toNat) (by omega)).1 (good_ok h _ (by omega))
  rw [show ((b.toNat : Nat) : Int) = b by omega] at h2
  omega
theorem good_slot {l : List S54} (h : good l = true) {b : Int} (h0 : 0 ≤ b) (h1 : b < l.length) : 0 ≤ slt l b ∧ slt l b ≤ 4000 := by
  have := okB_slot l l.length (good_ok h) b.toNat (by omega)
  rwa [show ((b.toNat : Nat) : Int) = b by omega] at this
theorem good_par {l : List S54} (h : good l = true) {b : Int} (h0 : 0 ≤ b) (h1 : b < l.length) : -1 ≤ par l b ∧ par l b < b := by
  by_cases e : b = 0
  · subst e; rw [(good_root h).1]; omega
  · have := good_pos h (b := b) (by omega) h1; omega
def there (l : List S54) (b : Int) : Bool := good l && decide (0 ≤ b ∧ b < l.length)
theorem there_iff {l : List S54} {b : Int} : there l b = true ↔ good l = true ∧ 0 ≤ b ∧ b < l.length := by simp [there]
theorem GoodTreeS_l0 (l : List S54) (hn : l.length ≤ 100000000000000) (d : Nat) : ∀ (k i : Nat), (∀ j, j < i → okB l j = true) → i + d = l.length → d < k → spec_GoodTree.l0 k l l (l.length : Int) i = some (okFrom l i d && inn (l.length : Int) 1 24) := by
  induction d with
  | zero =>
    intro k i _ hi' hk
    obtain ⟨k, rfl⟩ := step_k hk
    simp only [spec_GoodTree.l0, l1In_f, Option.bind_some]; rw [if_neg (by omega)]; simp [okFrom]
  | succ d ih =>
    intro k i hok hi' hk
    obtain ⟨k, rfl⟩ := step_k hk
    have next : okB l i = true → spec_GoodTree.l0 k l l (l.length : Int) ((i + 1 : Nat) : Int) = some (okFrom l (i + 1) d && inn (l.length : Int) 1 24) := fun h => ih k (i + 1) (fun j hj => by
      by_cases e : j = i
      · subst e; exact h
      · exact hok j (by omega)) (by omega) (by omega)
    simp only [spec_GoodTree.l0, l1In_f, Option.bind_some]
    rw [if_pos (by omega), if_pos (by omega), if_pos (by omega), w64s (by omega)]
    by_cases e : i = 0
    · subst e
      rw [if_pos (by omega)]
      by_cases h1 : par l 0 = -1
      · rw [if_pos (show (rd_T54 l ((0 : Nat) : Int)).f0 = -1 from h1)]
        by_cases h2 : slt l 0 = 0
        · rw [if_pos (show (rd_T54 l ((0 : Nat) : Int)).f1 = 0 from h2), next (okB_zero.2 ⟨h1, h2⟩)]
          simp [okFrom, okB_zero.2 ⟨h1, h2⟩]
        · rw [if_neg (show ¬ (rd_T54 l ((0 : Nat) : Int)).f1 = 0 from h2)]
          have : okB l 0 = false := by rw [Bool.eq_false_iff]; intro h; exact h2 (okB_zero.1 h).2
          simp [okFrom, this]
      · rw [if_neg (show ¬ (rd_T54 l ((0 : Nat) : Int)).f0 = -1 from h1)]
        have : okB l 0 = false := by rw [Bool.eq_false_iff]; intro h; exact h1 (okB_zero.1 h).1
        simp [okFrom, this]
    · rw [if_neg (by omega), w64 (n := (i : Int) - 1) (by omega) (by omega)]
      show (if inn (par l i) 0 ((i : Int) - 1) = true then _ else _) = _
      by_cases h1 : inn (par l i) 0 ((i : Int) - 1) = true
      · rw [if_pos h1]
        have h1' := inn_t.1 h1
        have hp := okB_slot l i hok (par l i).toNat (by omega)
        rw [show (((par l i).toNat : Nat) : Int) = par l i by omega] at hp
        show (if inn (slt l i) 1 4000 = true then (if 0 ≤ par l i then (if par l i < (l.length : Int) then (if slt l i ≤ slt l (par l i) then _ else _) else _) else _) else _) = _
        by_cases h2 : inn (slt l i) (slt l (par l i) + 1) 4000 = true
        · have h2' := inn_t.1 h2
          rw [if_pos (inn_t.2 ⟨by omega, h2'.2⟩), if_pos h1'.1, if_pos (by omega), if_neg (by omega), next ((okB_pos e).2 ⟨h1', h2'⟩)]
          simp [okFrom, (okB_pos e).2 ⟨h1', h2'⟩]
        · have hb : okB l i = false := by
            rw [Bool.eq_false_iff]; intro h; exact h2 (inn_t.2 ((okB_pos e).1 h).2)
          have h2' := inn_f.1 (Bool.eq_false_iff.2 h2)
          simp only [okFrom, hb, Bool.false_and]
          by_cases h3 : inn (slt l i) 1 4000 = true
          · have h3' := inn_t.1 h3
            rw [if_pos h3, if_pos h1'.1, if_pos (by omega), if_pos (by omega)]
          · rw [if_neg h3]
      · rw [if_neg h1]
        have hb : okB l i = false := by
          rw [Bool.eq_false_iff]; intro h; exact h1 (inn_t.2 ((okB_pos e).1 h).1)
        simp [okFrom, hb]
theorem GoodTreeS_f {k : Nat} {l : List S54} (hn : l.length ≤ 100000000000000) (hk : l.length < k) : spec_GoodTree.f k l = some (good l) := by
  unfold spec_GoodTree.f good
  rw [show (0 : Int) = ((0 : Nat) : Int) from rfl, GoodTreeS_l0 l hn l.length k 0 (fun j hj => by omega) (by omega) hk, Bool.and_comm]
theorem drop1 (l : List S54) (i : Nat) : rd_T54 (l.drop 1) (i : Int) = rd_T54 l ((i + 1 : Nat) : Int) := by
  simp [rd_T54, List.getD_eq_getElem?_getD, List.getElem?_drop, Nat.add_comm]
theorem isTree_l0 (l : List S54) (hn : l.length ≤ 100000000000000) (d : Nat) : ∀ (k i : Nat), (∀ j, j < i + 1 → okB l j = true) → i + 1 + d = l.length → d < k → impl_isTree.l0 k l (l.drop 1) (((l.drop 1).length : Nat) : Int) i = some (okFrom l (i + 1) d) := by
  induction d with
  | zero =>
    intro k i _ hi' hk
    obtain ⟨k, rfl⟩ := step_k hk
    simp only [impl_isTree.l0]; rw [if_neg (by simp; omega)]; simp [okFrom]
  | succ d ih =>
    intro k i hok hi' hk
    obtain ⟨k, rfl⟩ := step_k hk
    have hlen : (l.drop 1).length = l.length - 1 := by simp
    simp only [impl_isTree.l0, within_f, Option.bind_some]
    rw [if_pos (by rw [hlen]; omega), if_pos (by omega), if_pos (by rw [hlen]; omega), w64s (by omega), drop1]
    show (if inn (par l ((i + 1 : Nat) : Int)) 0 (i : Int) = true then (if 0 ≤ par l ((i + 1 : Nat) : Int) then (if par l ((i + 1 : Nat) : Int) < (l.length : Int) then (if inn (slt l ((i + 1 : Nat) : Int)) (wrap64 (slt l (par l ((i + 1 : Nat) : Int)) + 1)) 4000 = true then _ else _) else _) else _) else _) = _
    by_cases h1 : inn (par l ((i + 1 : Nat) : Int)) 0 (i : Int) = true
    · rw [if_pos h1]
      have h1' := inn_t.1 h1
      have hp := okB_slot l (i + 1) hok (par l ((i + 1 : Nat) : Int)).toNat (by omega)
      rw [show (((par l ((i + 1 : Nat) : Int)).toNat : Nat) : Int) = par l ((i + 1 : Nat) : Int) by omega] at hp
      rw [if_pos h1'.1, if_pos (by omega), w64 (by omega) (by omega)]
      by_cases h2 : inn (slt l ((i + 1 : Nat) : Int)) (slt l (par l ((i + 1 : Nat) : Int)) + 1) 4000 = true
      · have hb : okB l (i + 1) = true := (okB_pos (by omega)).2 ⟨⟨h1'.1, by omega⟩, inn_t.1 h2⟩
        rw [if_pos h2, ih k (i + 1) (fun j hj => by
          by_cases e : j = i + 1
          · subst e; exact hb
          · exact hok j (by omega)) (by omega) (by omega)]
        simp [okFrom, hb]
      · have hb : okB l (i + 1) = false := by
          rw [Bool.eq_false_iff]; intro h; exact h2 (inn_t.2 ((okB_pos (by omega)).1 h).2)
        rw [if_neg h2]; simp [okFrom, hb]
    · have hb : okB l (i + 1) = false := by
        rw [Bool.eq_false_iff]; intro h
        have h3 := ((okB_pos (by omega)).1 h).1
        exact h1 (inn_t.2 ⟨h3.1, by omega⟩)
      rw [if_neg h1]; simp [okFrom, hb]
theorem isTree_f {k : Nat} {l : List S54} (hn : l.length ≤ 100000000000000) (hk : 30 < k) : impl_isTree.f k l = some (good l) := by
  obtain ⟨k, rfl⟩ := step_k hk
  unfold impl_isTree.f
  simp only [within_f, Option.bind_some]
  by_cases h0 : inn (l.length : Int) 1 24 = true
  · have h0' := inn_t.1 h0
    rw [if_pos h0, if_pos (by omega)]
    by_cases h : okB l 0 = true
    · have h' := okB_zero.1 h
      have e1 : (rd_T54 l 0).f0 = -1 := h'.1
      have e2 : (rd_T54 l 0).f1 = 0 := h'.2
      simp only [e1, e2, impl_isTree.j0]
      rw [if_neg (by simp), if_pos (by omega)]
      simp only [Option.bind_some]
      rw [show (0 : Int) = ((0 : Nat) : Int) from rfl, isTree_l0 l hn (l.length - 1) k 0 (fun j hj => by obtain rfl : j = 0 := by omega
                                                                                                         exact h) (by omega) (by omega)]
      congr 1
      have e3 : l.length = (l.length - 1) + 1 := by omega
      unfold good
      rw [h0, Bool.true_and, e3]
      simp only [okFrom, h, Bool.true_and, Nat.add_sub_cancel]
    · have hc : (!((rd_T54 l 0).f0 == -1) || !((rd_T54 l 0).f1 == 0)) = true := by
        by_cases e : (rd_T54 l 0).f0 = -1
        · by_cases e2 : (rd_T54 l 0).f1 = 0
          · exact absurd (okB_zero.2 ⟨e, e2⟩) h
          · simp [e2]
        · simp [e]
      rw [hc]
      simp only [impl_isTree.j0, if_true]
      have e3 : l.length = (l.length - 1) + 1 := by omega
      unfold good
      rw [e3]
      simp [okFrom, Bool.eq_false_iff.2 h]
  · rw [if_neg h0]
    simp only [impl_isTree.j0, if_true]
    simp [good, Bool.eq_false_iff.2 h0]
def cvB (x : S62) : S54 := ⟨x.f0, x.f1⟩
theorem rdLB_get (l : List S62) (i : Nat) (h : i < l.length) : l[i]? = some (rd_T62 l (i : Int)) := by
  simp [rd_T62, List.getD_eq_getElem?_getD, List.getElem?_eq_getElem h]
theorem toBlockS_l0 (l : List S62) (hn : l.length ≤ 100000000000000) (d : Nat) : ∀ (k : Nat) (x : List S54) (i : Nat), x.length = l.length → i + d = l.length → d < k → (∀ j, j < i → x[j]? = (l.map cvB)[j]?) →
    laws_toBlockS.l0 k l x i = some (l.map cvB) := by
  induction d with
  | zero =>
    intro k x i hx hi hk hp
    obtain ⟨k, rfl⟩ := step_k hk
    simp only [laws_toBlockS.l0]; rw [if_neg (by omega)]
    congr 1
    apply List.ext_getElem?
    intro j
    by_cases h : j < i
    · exact hp j h
    · rw [List.getElem?_eq_none (by omega), List.getElem?_eq_none (by simp; omega)]
  | succ d ih =>
    intro k x i hx hi hk hp
    obtain ⟨k, rfl⟩ := step_k hk
    simp only [laws_toBlockS.l0, laws_toBlock.f, Option.bind_some]
    rw [if_pos (by omega), if_pos (by omega), if_pos (by omega), w64s (by omega)]
    refine ih k _ (i + 1) (by simpa using hx) (by omega) (by omega) ?_
    intro j hj
    rw [Int.toNat_natCast, List.getElem?_set]
    by_cases h : i = j
    · subst h
      rw [if_pos rfl, if_pos (by omega), List.getElem?_map, rdLB_get l i (by omega)]; rfl
    · rw [if_neg h]; exact hp j (by omega)
theorem toBlockS_f {k : Nat} {l : List S62} (hn : l.length ≤ 17592186044416) (hk : l.length < k) : laws_toBlockS.f k l = some (l.map cvB) := by
  unfold laws_toBlockS.f
  rw [if_pos (by omega), if_pos (by omega)]
  exact toBlockS_l0 l (by omega) l.length k _ 0 (by simp) (by omega) hk (by intro j hj; omega)
theorem szBlockS_f {l : List S62} {left : Int} (hn : l.length ≤ 100000000000000) (h0 : 0 ≤ left) (h1 : left ≤ 100000000000) : laws_szBlockS.f l left = some (if left < l.length then -1 else left - l.length) := by
  unfold laws_szBlockS.f
  rw [w64 (n := left - (l.length : Int)) (by omega) (by omega)]
  by_cases h : left < l.length
  · rw [if_pos (by omega), if_pos h]
  · rw [if_neg (by omega), if_neg h]
theorem eqBlockS_l0 (l : List S54) (hn : l.length ≤ 100000000000000) (d : Nat) : ∀ (k i : Nat), i + d = l.length → d < k → laws_eqBlockS.l0 k l l i = some true := by
  induction d with
  | zero =>
    intro k i hi hk
    obtain ⟨k, rfl⟩ := step_k hk
    simp only [laws_eqBlockS.l0]; rw [if_neg (by omega)]
  | succ d ih =>
    intro k i hi hk
    obtain ⟨k, rfl⟩ := step_k hk
    simp only [laws_eqBlockS.l0, laws_eqBlock.f, if_true, Option.bind_some]
    rw [if_pos (by omega), if_pos (by omega), if_pos (by omega), w64s (by omega)]
    exact ih k (i + 1) (by omega) (by omega)
theorem eqBlockS_f {k : Nat} {l : List S54} (hn : l.length ≤ 100000000000000) (hk : l.length < k) : laws_eqBlockS.f k l l = some true := by
  unfold laws_eqBlockS.f
  rw [if_pos rfl]
  exact eqBlockS_l0 l hn l.length k 0 (by omega) hk
def kidsFrom (l : List S54) (b : Int) : Nat → Nat → List Int
  | _, 0 => []
  | i, d + 1 => (if par l i = b then [(i : Int)] else []) ++ kidsFrom l b (i + 1) d
def kids (l : List S54) (b : Int) : List Int := kidsFrom l b 0 l.length
theorem kidsFrom_len (l : List S54) (b : Int) : ∀ d i, (kidsFrom l b i d).length ≤ d := by
  intro d
  induction d with
  | zero => intro i; simp [kidsFrom]
  | succ d ih => intro i; have := ih (i + 1); simp only [kidsFrom, List.length_append]; split <;> simp <;> omega
theorem kids_len (l : List S54) (b : Int) : (kids l b).length ≤ l.length := kidsFrom_len l b _ _
theorem kidsFrom_mem (l : List S54) (b : Int) : ∀ d i x, x ∈ kidsFrom l b i d ↔ (i : Int) ≤ x ∧ x < (i : Int) + d ∧ par l x = b := by
  intro d
  induction d with
  | zero => intro i x; simp [kidsFrom]; omega
  | succ d ih =>
    intro i x
    simp only [kidsFrom, List.mem_append, ih]
    constructor
    · rintro (h | h)
      · split at h
        · rename_i hp; simp only [List.mem_singleton] at h; subst h; exact ⟨by omega, by omega, hp⟩
        · simp at h
      · exact ⟨by omega, by omega, h.2.2⟩
    · rintro ⟨h1, h2, h3⟩
      by_cases e : x = (i : Int)
      · left; subst e; rw [if_pos h3]; simp
      · right; exact ⟨by omega, by omega, h3⟩
theorem kids_mem {l : List S54} {b x : Int} : x ∈ kids l b ↔ 0 ≤ x ∧ x < l.length ∧ par l x = b := by
  unfold kids; rw [kidsFrom_mem]; simp
theorem kidsFrom_sorted (l : List S54) (b : Int) : ∀ d i, (kidsFrom l b i d).Pairwise (· < ·) := by
  intro d
  induction d with
  | zero => intro i; simp [kidsFrom]
  | succ d ih =>
    intro i
    simp only [kidsFrom]
    split
    · rw [List.singleton_append, List.pairwise_cons]
      refine ⟨fun x hx => ?_, ih (i + 1)⟩
      have := (kidsFrom_mem l b d (i + 1) x).1 hx
      omega
    · simpa using ih (i + 1)
theorem childrenOf_l0 (l : List S54) (b : Int) (hn : l.length ≤ 1000000000) (d : Nat) : ∀ (k i : Nat) (acc : List Int), acc.length ≤ i → i + d = l.length → d < k → impl_childrenOf.l0 k b acc l (l.length : Int) i = some (acc ++ kidsFrom l b i d) := by
  induction d with
  | zero =>
    intro k i acc hacc hi' hk
    obtain ⟨k, rfl⟩ := step_k hk
    simp only [impl_childrenOf.l0]; rw [if_neg (by omega)]; simp [kidsFrom]
  | succ d ih =>
    intro k i acc hacc hi' hk
    obtain ⟨k, rfl⟩ := step_k hk
    simp only [impl_childrenOf.l0]
    rw [if_pos (by omega), if_pos (by omega), if_pos (by omega), w64s (by omega)]
    simp only [kidsFrom]
    show (if par l i = b then _ else _) = _
    by_cases h : par l i = b
    · rw [if_pos h, if_pos (by omega), ih k (i + 1) _ (by simp; omega) (by omega) (by omega), if_pos h]; simp
    · rw [if_neg h, ih k (i + 1) _ (by omega) (by omega) (by omega), if_neg h]; simp
theorem childrenOf_f {k : Nat} {l : List S54} {b : Int} (hn : l.length ≤ 1000000000) (hk : l.length < k) : impl_childrenOf.f k l b = some (kids l b) := by
  unfold impl_childrenOf.f
  have := childrenOf_l0 l b hn l.length k 0 [] (by simp) (by omega) hk
  simpa [kids] using this
theorem eqIntS_l0 (l : List Int) (hn : l.length ≤ 100000000000000) (d : Nat) : ∀ (k i : Nat), i + d = l.length → d < k → laws_eqIntS.l0 k l l i = some true := by
  induction d with
  | zero =>
    intro k i hi hk
    obtain ⟨k, rfl⟩ := step_k hk
    simp only [laws_eqIntS.l0]; rw [if_neg (by omega)]
  | succ d ih =>
    intro k i hi hk
    obtain ⟨k, rfl⟩ := step_k hk
    simp only [laws_eqIntS.l0]
    rw [if_pos (by omega), if_pos (by omega), if_pos (by omega), if_true, w64s (by omega)]
    exact ih k (i + 1) (by omega) (by omega)
theorem eqIntS_f {k : Nat} {l : List Int} (hn : l.length ≤ 100000000000000) (hk : l.length < k) : laws_eqIntS.f k l l = some true := by
  unfold laws_eqIntS.f
  rw [if_pos rfl]
  exact eqIntS_l0 l hn l.length k 0 (by omega) hk
def marks (a : Int) (n : Nat) : List Int := (List.range n).map fun i : Nat => a + (i : Int)
theorem marks_len (a : Int) (n : Nat) : (marks a n).length = n := by simp [marks]
theorem marks_rd (a : Int) (n i : Nat) (h : i < n) : rd (marks a n) (i : Int) = a + i := by
  simp [marks, rd, List.getD_eq_getElem?_getD, h]
theorem markIntS_l0 (n : Nat) (hn : n ≤ 100000000000000) (a : Int) (h0 : 0 ≤ a) (ha : a ≤ 100000000000000) (d : Nat) : ∀ (k : Nat) (x : List Int) (i : Nat), x.length = n → i + d = n → d < k → (∀ j, j < i → x[j]? = some (a + (j : Int))) →
    laws_markIntS.l0 k x (a + i) i = some (a + n, marks a n) := by
  induction d with
  | zero =>
    intro k x i hx hi hk hp
    obtain ⟨k, rfl⟩ := step_k hk
    simp only [laws_markIntS.l0]; rw [if_neg (by omega)]
    congr 1
    refine Prod.ext (by simp; omega) ?_
    apply List.ext_getElem?
    intro j
    by_cases h : j < i
    · show x[j]? = _
      rw [hp j h]; simp [marks, show j < n by omega]
    · rw [List.getElem?_eq_none (by simp; omega), List.getElem?_eq_none (by rw [marks_len]; omega)]
  | succ d ih =>
    intro k x i hx hi hk hp
    obtain ⟨k, rfl⟩ := step_k hk
    simp only [laws_markIntS.l0]
    rw [if_pos (by omega), if_pos (by omega), w64s (by omega), w64 (n := a + (i : Int) + 1) (by omega) (by omega), show a + (i : Int) + 1 = a + ((i + 1 : Nat) : Int) by omega]
    refine ih k _ (i + 1) (by simpa using hx) (by omega) (by omega) ?_
    intro j hj
    rw [Int.toNat_natCast, List.getElem?_set]
    by_cases h : i = j
    · subst h
      rw [if_pos rfl, if_pos (by omega)]
    · rw [if_neg h]; exact hp j (by omega)
theorem markIntS_f {k : Nat} {l : List Int} {a : Int} (hn : l.length ≤ 100000000000000) (h0 : 0 ≤ a) (ha : a ≤ 100000000000000) (hk : l.length < k) : laws_markIntS.f k l a = some (a + l.length, marks a l.length) := by
  unfold laws_markIntS.f
  have := markIntS_l0 l.length hn a h0 ha l.length k l 0 rfl (by omega) hk (by intro j hj; omega)
  rw [show a + ((0 : Nat) : Int) = a by omega] at this
  exact this
theorem heldIntS_l0 (n : Nat) (hn : n ≤ 100000000000000) (a : Int) (h0 : 0 ≤ a) (ha : a ≤ 100000000000000) (d : Nat) : ∀ (k i : Nat), i + d = n → d < k → laws_heldIntS.l0 k (marks a n) (a + i) i = some (a + n) := by
  induction d with
  | zero =>
    intro k i hi hk
    obtain ⟨k, rfl⟩ := step_k hk
    simp only [laws_heldIntS.l0]; rw [if_neg (by rw [marks_len]; omega)]
    congr 1; omega
  | succ d ih =>
    intro k i hi hk
    obtain ⟨k, rfl⟩ := step_k hk
    simp only [laws_heldIntS.l0]
    rw [if_pos (by rw [marks_len]; omega), if_pos (by omega), if_pos (marks_rd a n i (by omega)), w64s (by omega), w64 (n := a + (i : Int) + 1) (by omega) (by omega), show a + (i : Int) + 1 = a + ((i + 1 : Nat) : Int) by omega]
    exact ih k (i + 1) (by omega) (by omega)
theorem heldIntS_f {k n : Nat} {a : Int} (hn : n ≤ 100000000000000) (h0 : 0 ≤ a) (ha : a ≤ 100000000000000) (hk : n < k) : laws_heldIntS.f k (marks a n) a = some (a + n) := by
  unfold laws_heldIntS.f
  have := heldIntS_l0 n hn a h0 ha n k 0 (by omega) hk
  rw [show a + ((0 : Nat) : Int) = a by omega] at this
  exact this
def marksB (a : Int) (n : Nat) : List S54 := (List.range n).map fun i : Nat => ⟨a + 2 * (i : Int), a + 2 * (i : Int) + 1⟩
theorem markBlockS_l0 (n : Nat) (hn : n ≤ 100000000000000) (a : Int) (h0 : 0 ≤ a) (ha : a ≤ 100000000000000) (d : Nat) : ∀ (k : Nat) (x : List S54) (i : Nat), x.length = n → i + d = n → d < k → (∀ j, j < i → x[j]? = some ⟨a + 2 * (j : Int), a + 2 * (j : Int) + 1⟩) →
    laws_markBlockS.l0 k x (a + 2 * (i : Int)) i = some (a + 2 * (n : Int), marksB a n) := by
  induction d with
  | zero =>
    intro k x i hx hi hk hp
    obtain ⟨k, rfl⟩ := step_k hk
    simp only [laws_markBlockS.l0]; rw [if_neg (by omega)]
    congr 1
    refine Prod.ext (by simp; omega) ?_
    apply List.ext_getElem?
    intro j
    by_cases h : j < i
    · show x[j]? = _
      rw [hp j h]; simp [marksB, show j < n by omega]
    · rw [List.getElem?_eq_none (by simp; omega), List.getElem?_eq_none (by simp [marksB]; omega)]
  | succ d ih =>
    intro k x i hx hi hk hp
    obtain ⟨k, rfl⟩ := step_k hk
    simp only [laws_markBlockS.l0, Option.bind_some]
    rw [if_pos (by omega), if_pos (by omega), w64s (by omega), w64 (n := a + 2 * (i : Int) + 1) (by omega) (by omega), w64 (n := a + 2 * (i : Int) + 1 + 1) (by omega) (by omega), show a + 2 * (i : Int) + 1 + 1 = a + 2 * ((i + 1 : Nat) : Int) by omega]
    refine ih k _ (i + 1) (by simpa using hx) (by omega) (by omega) ?_
    intro j hj
    rw [Int.toNat_natCast, List.getElem?_set]
    by_cases h : i = j
    · subst h
      rw [if_pos rfl, if_pos (by simp; omega)]
      have e : rd_T54 (x.set i ⟨a + 2 * (i : Int), (rd_T54 x (i : Int)).f1⟩) (i : Int) = ⟨a + 2 * (i : Int), (rd_T54 x (i : Int)).f1⟩ := by
        simp [rd_T54, List.getD_eq_getElem?_getD, List.getElem?_set, show i < x.length by omega]
      rw [e]
    · rw [if_neg h, List.getElem?_set, if_neg h]; exact hp j (by omega)
theorem markBlockS_f {k : Nat} {l : List S54} {a : Int} (hn : l.length ≤ 100000000000000) (h0 : 0 ≤ a) (ha : a ≤ 100000000000000) (hk : l.length < k) : laws_markBlockS.f k l a = some (a + 2 * (l.length : Int), marksB a l.length) := by
  unfold laws_markBlockS.f
  have := markBlockS_l0 l.length hn a h0 ha l.length k l 0 rfl (by omega) hk (by intro j hj; omega)
  rw [show a + 2 * ((0 : Nat) : Int) = a by omega] at this
  exact this
def leavesFrom (l : List S54) : Nat → Nat → List Int
  | _, 0 => []
  | i, d + 1 => (if kids l i = [] then [(i : Int)] else []) ++ leavesFrom l (i + 1) d
theorem leavesFrom_len (l : List S54) : ∀ d i, (leavesFrom l i d).length ≤ d := by
  intro d
  induction d with
  | zero => intro i; simp [leavesFrom]
  | succ d ih => intro i; have := ih (i + 1); simp only [leavesFrom, List.length_append]; split <;> simp <;> omega
theorem LeavesI_l0 {l : List S54} (hn : l.length ≤ 24) (d : Nat) : ∀ (k i : Nat) (acc : List Int), acc.length ≤ i → i + d = l.length → d + 40 < k → impl_LeavesOf.l0 k l acc (l.length : Int) i = some (acc ++ leavesFrom l i d, true) := by
  induction d with
  | zero =>
    intro k i acc hacc hi' hk
    obtain ⟨k, rfl⟩ : ∃ m, k = m + 1 := ⟨k - 1, by omega⟩
    simp only [impl_LeavesOf.l0]; rw [if_neg (by omega)]; simp [leavesFrom]
  | succ d ih =>
    intro k i acc hacc hi' hk
    obtain ⟨k, rfl⟩ : ∃ m, k = m + 1 := ⟨k - 1, by omega⟩
    simp only [impl_LeavesOf.l0]
    rw [if_pos (by omega), childrenOf_f (by omega) (by omega)]
    simp only [Option.bind_some, leavesFrom]
    rw [w64s (by omega)]
    by_cases h : kids l i = []
    · rw [if_pos (by rw [h]; rfl), if_pos (by omega), ih k (i + 1) _ (by simp; omega) (by omega) (by omega), if_pos h]; simp
    · rw [if_neg (by intro e; exact h (List.eq_nil_of_length_eq_zero (by omega))), ih k (i + 1) _ (by omega) (by omega) (by omega), if_neg h]; simp
theorem kidsFrom_nil (l : List S54) (b : Int) : ∀ d i, kidsFrom l b i d = [] ↔ ∀ j : Nat, i ≤ j → j < i + d → par l j ≠ b := by
  intro d i
  constructor
  · intro h j h1 h2 e
    have := (kidsFrom_mem l b d i (j : Int)).2 ⟨by omega, by omega, e⟩
    rw [h] at this; cases this
  · intro h
    cases hk : kidsFrom l b i d with
    | nil => rfl
    | cons x xs =>
      have := (kidsFrom_mem l b d i x).1 (by rw [hk]; simp)
      have h2 := h x.toNat (by omega) (by omega)
      rw [show ((x.toNat : Nat) : Int) = x by omega] at h2
      exact absurd this.2.2 h2
/-- Till i no block has parent b. -/
def noneTill (l : List S54) (b : Int) (i : Nat) : Bool := decide (kidsFrom l b 0 i = [])
theorem noneTill_step (l : List S54) (b : Int) (i : Nat) : noneTill l b (i + 1) = (noneTill l b i && (par l i != b)) := by
  unfold noneTill
  rw [Bool.eq_iff_iff]
  simp only [decide_eq_true_eq, Bool.and_eq_true, kidsFrom_nil, bne_iff_ne]
  constructor
  · intro h; exact ⟨fun j h1 h2 => h j h1 (by omega), h i (by omega) (by omega)⟩
  · rintro ⟨h1, h2⟩ j h3 h4
    by_cases e : j = i
    · subst e; exact h2
    · exact h1 j h3 (by omega)
theorem LeavesS_l1 {l : List S54} (hn : l.length ≤ 24) (X : Option (List Int)) (i : Nat) (acc : List Int) (hacc : acc.length ≤ 24) (K : Nat)
    (h1 : kids l i = [] → ∀ k, K < k → spec_l3Leaves.l0 k l (acc ++ [(i : Int)]) (l.length : Int) (wrap64 ((i : Int) + 1)) = X)
    (h0 : kids l i ≠ [] → ∀ k, K < k → spec_l3Leaves.l0 k l acc (l.length : Int) (wrap64 ((i : Int) + 1)) = X) (d : Nat) :
    ∀ (k j : Nat), j + d = l.length → d + K + 1 < k → spec_l3Leaves.l1 k l acc i (noneTill l i j) (l.length : Int) i l (l.length : Int) j = X := by
  induction d with
  | zero =>
    intro k j hj hk
    obtain ⟨k, rfl⟩ : ∃ m, k = m + 1 := ⟨k - 1, by omega⟩
    simp only [spec_l3Leaves.l1]
    rw [if_neg (by omega)]
    have e : noneTill l i j = decide (kids l i = []) := by unfold noneTill kids; rw [show j = l.length by omega]
    rw [e]
    by_cases h : kids l i = []
    · rw [if_pos (by simpa using h), if_pos (by omega)]; exact h1 h k (by omega)
    · rw [if_neg (by simpa using h)]; exact h0 h k (by omega)
  | succ d ih =>
    intro k j hj hk
    obtain ⟨k, rfl⟩ : ∃ m, k = m + 1 := ⟨k - 1, by omega⟩
    simp only [spec_l3Leaves.l1]
    rw [if_pos (by omega), if_pos (by omega), if_pos (by omega), w64s (i := j) (by omega)]
    have hs := ih k (j + 1) (by omega) (by omega)
    rw [noneTill_step] at hs
    by_cases h : noneTill l i j = true
    · rw [if_pos h]
      rw [h, Bool.true_and] at hs
      exact hs
    · rw [if_neg h]
      rw [Bool.eq_false_iff.2 h, Bool.false_and] at hs
      exact hs
theorem LeavesS_l0 {l : List S54} (hn : l.length ≤ 24) (d : Nat) : ∀ (k i : Nat) (acc : List Int), acc.length ≤ i → i + d = l.length → 60 * d < k → spec_l3Leaves.l0 k l acc (l.length : Int) i = some (acc ++ leavesFrom l i d) := by
  induction d with
  | zero =>
    intro k i acc hacc hi' hk
    obtain ⟨k, rfl⟩ : ∃ m, k = m + 1 := ⟨k - 1, by omega⟩
    simp only [spec_l3Leaves.l0]; rw [if_neg (by omega)]; simp [leavesFrom]
  | succ d ih =>
    intro k i acc hacc hi' hk
    obtain ⟨k, rfl⟩ : ∃ m, k = m + 1 := ⟨k - 1, by omega⟩
    simp only [spec_l3Leaves.l0]
    rw [if_pos (by omega)]
    refine LeavesS_l1 hn (some (acc ++ leavesFrom l i (d + 1))) i acc (by omega) (60 * d) (fun h k hk => ?_) (fun h k hk => ?_) l.length k 0 (by omega) (by omega)
    · rw [w64s (by omega), ih k (i + 1) _ (by simp; omega) (by omega) hk]; simp [leavesFrom, h]
    · rw [w64s (by omega), ih k (i + 1) _ (by omega) (by omega) hk]; simp [leavesFrom, h]
def res (l : List S54) : List Int × Bool := if good l then (leavesFrom l 0 l.length, true) else ([], false)
theorem res_len (l : List S54) : (res l).1.length ≤ 100 := by
  unfold res
  split
  · rename_i h
    have := good_len h
    have := leavesFrom_len l l.length 0
    show (leavesFrom l 0 l.length).length ≤ 100; omega
  · simp
theorem spec_LeavesOf_f {k : Nat} {l : List S54} (hn : l.length ≤ 100000000000000) (hk : l.length + 3000 < k) : spec_LeavesOf.f k l = some (res l) := by
  unfold spec_LeavesOf.f res spec_l3Leaves.f
  simp (disch := omega) only [GoodTreeS_f, Option.bind_some]
  by_cases h1 : good l = true
  · have hg := good_len h1
    have := LeavesS_l0 (l := l) (by omega) l.length k 0 [] (by simp) (by omega) (by omega)
    rw [show ((0 : Nat) : Int) = 0 from rfl] at this
    rw [if_pos h1, if_pos h1, this]; rfl
  · rw [if_neg h1, if_neg h1]
theorem impl_LeavesOf_f {k : Nat} {l : List S54} (hn : l.length ≤ 100000000000000) (hk : l.length + 3000 < k) : impl_LeavesOf.f k l = some (res l) := by
  unfold impl_LeavesOf.f res
  simp (disch := omega) only [isTree_f, Option.bind_some]
  by_cases h1 : good l = true
  · have hg := good_len h1
    have := LeavesI_l0 (l := l) (by omega) l.length k 0 [] (by simp) (by omega) (by omega)
    rw [show ((0 : Nat) : Int) = 0 from rfl] at this
    rw [if_pos h1, if_pos h1, this]; rfl
  · rw [if_neg h1, if_neg h1]
theorem FnExactLeavesOf : ∀ (l0 : List (S62)), l0.length * 16 ≤ 140737488351232 → (∀ v ∈ l0, (Lit.int .i64 v.f0).wf = true ∧ (Lit.int .i64 v.f1).wf = true) → ∃ k, laws_FnExactLeavesOf.f k l0 = some true := by
  intro l  hl
  intros
  suffices h : ∀ k, 1058990 ≤ k → laws_FnExactLeavesOf.f k l  = some true from ⟨_, h _ (Nat.le_refl _)⟩
  intro k hk
  have hm : (l.map cvB).length = l.length := by simp
  unfold laws_FnExactLeavesOf.f
  simp (disch := omega) only [szBlockS_f, Option.bind_some]
  by_cases h : (1048576 : Int) < l.length
  · rw [if_pos h, if_pos (by omega)]
  · rw [if_neg h, if_neg (by omega)]
    obtain ⟨m, hm1, hm2⟩ : ∃ m, k = m + 3 ∧ 1058980 ≤ m := ⟨k - 3, by omega, by omega⟩
    rw [hm1]
    have hl2 := res_len (l.map cvB) 
    have hneg : (1 + ((res (l.map cvB) ).1.length : Int) < 0) = False := eq_false (by omega)
    simp (disch := omega) only [toBlockS_f, spec_LeavesOf_f, impl_LeavesOf_f, eqBlockS_f, eqIntS_f, markBlockS_f, Option.bind_some, bne_self_eq_false, laws_FnExactLeavesOf.j0, Bool.false_eq_true, if_false, if_true]
    rw [if_neg (by omega)]
    simp (disch := omega) only [toBlockS_f, impl_LeavesOf_f, eqIntS_f, markIntS_f, heldIntS_f, Option.bind_some, bne_self_eq_false, laws_FnExactLeavesOf.j1, laws_FnExactLeavesOf.j2, Bool.false_eq_true, if_false, if_true, hneg]

end Go.Proofs.Ytinhgkemalogiaa.Pure
