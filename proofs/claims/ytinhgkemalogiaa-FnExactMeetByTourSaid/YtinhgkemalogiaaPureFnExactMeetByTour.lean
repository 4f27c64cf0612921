/- The program's MeetByTour and the reference's return the same at every list of blocks and every two integers, and leave the list as it is. No condition. -/
import Derived.Test.YtinhgkemalogiaaPFnExactMeetByTourx0
import Derived.Test.YtinhgkemalogiaaPFnExactMeetByTourx1
import Derived.Test.YtinhgkemalogiaaPFnExactMeetByTourx2
import Derived.Test.YtinhgkemalogiaaPFnExactMeetByTourx3
import Derived.Test.YtinhgkemalogiaaPFnExactMeetByTourx4
namespace Go.Proofs.Ytinhgkemalogiaa.Pure
open Go.RowKit Go.Proofs.Ytinhgkemalogiaa.PFnExactMeetByTour Go.Proofs.YtinhgkemalogiaaW.PrintWords Go.Proofs.YtinhgkemalogiaaW.PrintLast Go.Proofs.YtinhgkemalogiaaW.PrintMore
set_option linter.unusedVariables false
set_option linter.unusedSimpArgs false
theorem w64 {n : Int} (h0 : -9223372036854775808 ≤ n) (h1 : n ≤ 9223372036854775807) : wrap64 n = n := by unfold wrap64; omega
theorem w64s {i : Nat} (h1 : i ≤ 1000000000000000) : wrap64 ((i : Int) + 1) = ((i + 1 : Nat) : Int) := by rw [w64 (by omega) (by omega)]; omega
theorem rd_eq (l : List Int) (i : Nat) : rd l (i : Int) = l.getD i 0 := by simp [rd]
theorem rd_get (l : List Int) (i : Nat) (h : i < l.length) : l[i]? = some (rd l (i : Int)) := by
  simp [rd, List.getD_eq_getElem?_getD, List.getElem?_eq_getElem h]
theorem rd_mem (l : List Int) (i : Nat) (h : i < l.length) : rd l (i : Int) ∈ l := List.mem_of_getElem? (rd_get l i h)
theorem step_k {k d : Nat} (h : d < k) : ∃ m, k = m + 1 := ⟨k - 1, by omega⟩
def inn (a b c : Int) : Bool := decide (b ≤ a ∧ a ≤ c)
theorem inn_t {a b c : Int} : inn a b c = true ↔ b ≤ a ∧ a ≤ c := by simp [inn]
theorem inn_f {a b c : Int} : inn a b c = false ↔ a < b ∨ c < a := by simp [inn]; omega
theorem l1In_f (a b c : Int) : spec_l1In.f a b c = some (inn a b c) := by
  unfold spec_l1In.f inn
  by_cases h : a ≥ b
  · rw [if_pos h]; simp [show b ≤ a from h]
  · rw [if_neg h]; simp [show ¬ b ≤ a from h]
theorem within_f (a b c : Int) : impl_within.f a b c = some (inn a b c) := by
  unfold impl_within.f inn
  by_cases h : a ≥ b
  · rw [if_pos h]; simp [show b ≤ a from h]
  · rw [if_neg h]; simp [show ¬ b ≤ a from h]
def par (l : List S54) (b : Int) : Int := (rd_T54 l b).f0
def slt (l : List S54) (b : Int) : Int := (rd_T54 l b).f1
/-- Block i is in its place. -/
def okB (l : List S54) (i : Nat) : Bool := if i = 0 then decide (par l 0 = -1) && decide (slt l 0 = 0) else inn (par l i) 0 ((i : Int) - 1) && inn (slt l i) (slt l (par l i) + 1) 4000
def okFrom (l : List S54) : Nat → Nat → Bool
  | _, 0 => true
  | i, d + 1 => okB l i && okFrom l (i + 1) d
def good (l : List S54) : Bool := inn (l.length : Int) 1 24 && okFrom l 0 l.length
theorem okFrom_iff (l : List S54) : ∀ d i, okFrom l i d = true ↔ ∀ j, i ≤ j → j < i + d → okB l j = true := by
  intro d
  induction d with
  | zero => intro i; simp only [okFrom, true_iff]; intro j h1 h2; omega
  | succ d ih =>
    intro i
    simp only [okFrom, Bool.and_eq_true, ih]
    constructor
    · rintro ⟨h1, h3⟩ j hj hj2
      by_cases e : j = i
      · subst e; exact h1
      · exact h3 j (by omega) (by omega)
    · intro h
      exact ⟨h i (Nat.le_refl _) (by omega), fun j hj hj2 => h j (by omega) (by omega)⟩
theorem okB_zero {l : List S54} : okB l 0 = true ↔ par l 0 = -1 ∧ slt l 0 = 0 := by simp [okB]
theorem okB_pos {l : List S54} {i : Nat} (h : i ≠ 0) : okB l i = true ↔ (0 ≤ par l i ∧ par l i ≤ (i : Int) - 1) ∧ slt l (par l i) + 1 ≤ slt l i ∧ slt l i ≤ 4000 := by
  simp only [okB, if_neg h, Bool.and_eq_true, inn_t]
/-- What is in its place has a slot from 0 to 4000. -/
theorem okB_slot (l : List S54) (n : Nat) (h : ∀ j, j < n → okB l j = true) : ∀ j, j < n → 0 ≤ slt l j ∧ slt l j ≤ 4000 := by
  intro j
  induction j using Nat.strongRecOn with
  | _ j ih =>
    intro hj
    have h1 := h j hj
    by_cases e : j = 0
    · subst e
      have h2 := (okB_zero.1 h1).2
      have e0 : ((0 : Nat) : Int) = 0 := rfl
      rw [e0]; omega
    · have h2 := (okB_pos e).1 h1
      have h3 := ih (par l j).toNat (by omega) (by omega)
      rw [show (((par l j).toNat : Nat) : Int) = par l j by omega] at h3
      omega
theorem good_len {l : List S54} (h : good l = true) : 1 ≤ l.length ∧ l.length ≤ 24 := by
  simp only [good, Bool.and_eq_true, inn_t] at h
  omega
theorem good_ok {l : List S54} (h : good l = true) : ∀ j, j < l.length → okB l j = true := by
  simp only [good, Bool.and_eq_true, okFrom_iff] at h
  exact fun j hj => h.2 j (by omega) (by omega)
theorem good_root {l : List S54} (h : good l = true) : par l 0 = -1 ∧ slt l 0 = 0 := okB_zero.1 (good_ok h 0 (by have := good_len h; omega))
theorem good_pos {l : List S54} (h : good l = true) {b : Int} (h0 : 0 < b) (h1 : b < l.length) : 0 ≤ par l b ∧ par l b < b ∧ slt l (par l b) < slt l b ∧ slt l b ≤ 4000 := by
  have h2 := (okB_pos (l := l) (i := b.toNat) (by omega)).1 (good_ok h _ (by omega))
  rw [show ((b.toNat : Nat) : Int) = b by omega] at h2
  omega
theorem good_slot {l : List S54} (h : good l = true) {b : Int} (h0 : 0 ≤ b) (h1 : b < l.length) : 0 ≤ slt l b ∧ slt l b ≤ 4000 := by
  have := okB_slot l l.length (good_ok h) b.toNat (by omega)
  rwa [show ((b.toNat : Nat) : Int) = b by omega] at this
theorem good_par {l : List S54} (h : good l = true) {b : Int} (h0 : 0 ≤ b) (h1 : b < l.length) : -1 ≤ par l b ∧ par l b < b := by
  by_cases e : b = 0
  · subst e; rw [(good_root h).1]; omega
  · have := good_pos h (b := b) (by omega) h1; omega
def there (l : List S54) (b : Int) : Bool := good l && decide (0 ≤ b ∧ b < l.length)
theorem there_iff {l : List S54} {b : Int} : there l b = true ↔ good l = true ∧ 0 ≤ b ∧ b < l.length := by simp [there]
theorem GoodTreeS_l0 (l : List S54) (hn : l.length ≤ 100000000000000) (d : Nat) : ∀ (k i : Nat), (∀ j, j < i → okB l j = true) → i + d = l.length → d < k → spec_GoodTree.l0 k l l (l.length : Int) i = some (okFrom l i d && inn (l.length : Int) 1 24) := by
  induction d with
  | zero =>
    intro k i _ hi' hk
    obtain ⟨k, rfl⟩ := step_k hk
    simp only [spec_GoodTree.l0, l1In_f, Option.bind_some]; rw [if_neg (by omega)]; simp [okFrom]
  | succ d ih =>
    intro k i hok hi' hk
    obtain ⟨k, rfl⟩ := step_k hk
    have next : okB l i = true → spec_GoodTree.l0 k l l (l.length : Int) ((i + 1 : Nat) : Int) = some (okFrom l (i + 1) d && inn (l.length : Int) 1 24) := fun h => ih k (i + 1) (fun j hj => by
      by_cases e : j = i
      · subst e; exact h
      · exact hok j (by omega)) (by omega) (by omega)
    simp only [spec_GoodTree.l0, l1In_f, Option.bind_some]
    rw [if_pos (by omega), if_pos (by omega), if_pos (by omega), w64s (by omega)]
    by_cases e : i = 0
    · subst e
      rw [if_pos (by omega)]
      by_cases h1 : par l 0 = -1
      · rw [if_pos (show (rd_T54 l ((0 : Nat) : Int)).f0 = -1 from h1)]
        by_cases h2 : slt l 0 = 0
        · rw [if_pos (show (rd_T54 l ((0 : Nat) : Int)).f1 = 0 from h2), next (okB_zero.2 ⟨h1, h2⟩)]
          simp [okFrom, okB_zero.2 ⟨h1, h2⟩]
        · rw [if_neg (show ¬ (rd_T54 l ((0 : Nat) : Int)).f1 = 0 from h2)]
          have : okB l 0 = false := by rw [Bool.eq_false_iff]; intro h; exact h2 (okB_zero.1 h).2
          simp [okFrom, this]
      · rw [if_neg (show ¬ (rd_T54 l ((0 : Nat) : Int)).f0 = -1 from h1)]
        have : okB l 0 = false := by rw [Bool.eq_false_iff]; intro h; exact h1 (okB_zero.1 h).1
        simp [okFrom, this]
    · rw [if_neg (by omega), w64 (n := (i : Int) - 1) (by omega) (by omega)]
      show (if inn (par l i) 0 ((i : Int) - 1) = true then _ else _) = _
      by_cases h1 : inn (par l i) 0 ((i : Int) - 1) = true
      · rw [if_pos h1]
        have h1' := inn_t.1 h1
        have hp := okB_slot l i hok (par l i).toNat (by omega)
        rw [show (((par l i).toNat : Nat) : Int) = par l i by omega] at hp
        show (if inn (slt l i) 1 4000 = true then (if 0 ≤ par l i then (if par l i < (l.length : Int) then (if slt l i ≤ slt l (par l i) then _ else _) else _) else _) else _) = _
        by_cases h2 : inn (slt l i) (slt l (par l i) + 1) 4000 = true
        · have h2' := inn_t.1 h2
          rw [if_pos (inn_t.2 ⟨by omega, h2'.2⟩), if_pos h1'.1, if_pos (by omega), if_neg (by omega), next ((okB_pos e).2 ⟨h1', h2'⟩)]
          simp [okFrom, (okB_pos e).2 ⟨h1', h2'⟩]
        · have hb : okB l i = false := by
            rw [Bool.eq_false_iff]; intro h; exact h2 (inn_t.2 ((okB_pos e).1 h).2)
          have h2' := inn_f.1 (Bool.eq_false_iff.2 h2)
          simp only [okFrom, hb, Bool.false_and]
          by_cases h3 : inn (slt l i) 1 4000 = true
          · have h3' := inn_t.1 h3
            rw [if_pos h3, if_pos h1'.1, if_pos (by omega), if_pos (by omega)]
          · rw [if_neg h3]
      · rw [if_neg h1]
        have hb : okB l i = false := by
          rw [Bool.eq_false_iff]; intro h; exact h1 (inn_t.2 ((okB_pos e).1 h).1)
        simp [okFrom, hb]
theorem GoodTreeS_f {k : Nat} {l : List S54} (hn : l.length ≤ 100000000000000) (hk : l.length < k) : spec_GoodTree.f k l = some (good l) := by
  unfold spec_GoodTree.f good
  rw [show (0 : Int) = ((0 : Nat) : Int) from rfl, GoodTreeS_l0 l hn l.length k 0 (fun j hj => by omega) (by omega) hk, Bool.and_comm]
theorem drop1 (l : List S54) (i : Nat) : rd_T54 (l.drop 1) (i : Int) = rd_T54 l ((i + 1 : Nat) : Int) := by
  simp [rd_T54, List.getD_eq_getElem?_getD, List.getElem?_drop, Nat.add_comm]
theorem isTree_l0 (l : List S54) (hn : l.length ≤ 100000000000000) (d : Nat) : ∀ (k i : Nat), (∀ j, j < i + 1 → okB l j = true) → i + 1 + d = l.length → d < k → impl_isTree.l0 k l (l.drop 1) (((l.drop 1).length : Nat) : Int) i = some (okFrom l (i + 1) d) := by
  induction d with
  | zero =>
    intro k i _ hi' hk
    obtain ⟨k, rfl⟩ := step_k hk
    simp only [impl_isTree.l0]; rw [if_neg (by simp; omega)]; simp [okFrom]
  | succ d ih =>
    intro k i hok hi' hk
    obtain ⟨k, rfl⟩ := step_k hk
    have hlen : (l.drop 1).length = l.length - 1 := by simp
    simp only [impl_isTree.l0, within_f, Option.bind_some]
    rw [if_pos (by rw [hlen]; omega), if_pos (by omega), if_pos (by rw [hlen]; omega), w64s (by omega), drop1]
    show (if inn (par l ((i + 1 : Nat) : Int)) 0 (i : Int) = true then (if 0 ≤ par l ((i + 1 : Nat) : Int) then (if par l ((i + 1 : Nat) : Int) < (l.length : Int) then (if inn (slt l ((i + 1 : Nat) : Int)) (wrap64 (slt l (par l ((i + 1 : Nat) : Int)) + 1)) 4000 = true then _ else _) else _) else _) else _) = _
    by_cases h1 : inn (par l ((i + 1 : Nat) : Int)) 0 (i : Int) = true
    · rw [if_pos h1]
      have h1' := inn_t.1 h1
      have hp := okB_slot l (i + 1) hok (par l ((i + 1 : Nat) : Int)).toNat (by omega)
      rw [show (((par l ((i + 1 : Nat) : Int)).toNat : Nat) : Int) = par l ((i + 1 : Nat) : Int) by omega] at hp
      rw [if_pos h1'.1, if_pos (by omega), w64 (by omega) (by omega)]
      by_cases h2 : inn (slt l ((i + 1 : Nat) : Int)) (slt l (par l ((i + 1 : Nat) : Int)) + 1) 4000 = true
      · have hb : okB l (i + 1) = true := (okB_pos (by omega)).2 ⟨⟨h1'.1, by omega⟩, inn_t.1 h2⟩
        rw [if_pos h2, ih k (i + 1) (fun j hj => by
          by_cases e : j = i + 1
          · subst e; exact hb
          · exact hok j (by omega)) (by omega) (by omega)]
        simp [okFrom, hb]
      · have hb : okB l (i + 1) = false := by
          rw [Bool.eq_false_iff]; intro h; exact h2 (inn_t.2 ((okB_pos (by omega)).1 h).2)
        rw [if_neg h2]; simp [okFrom, hb]
    · have hb : okB l (i + 1) = false := by
        rw [Bool.eq_false_iff]; intro h
        have h3 := ((okB_pos (by omega)).1 h).1
        exact h1 (inn_t.2 ⟨h3.1, by omega⟩)
      rw [if_neg h1]; simp [okFrom, hb]
theorem isTree_f {k : Nat} {l : List S54} (hn : l.length ≤ 100000000000000) (hk : 30 < k) : impl_isTree.f k l = some (good l) := by
  obtain ⟨k, rfl⟩ := step_k hk
  unfold impl_isTree.f
  simp only [within_f, Option.bind_some]
  by_cases h0 : inn (l.length : Int) 1 24 = true
  · have h0' := inn_t.1 h0
    rw [if_pos h0, if_pos (by omega)]
    by_cases h : okB l 0 = true
    · have h' := okB_zero.1 h
      have e1 : (rd_T54 l 0).f0 = -1 := h'.1
      have e2 : (rd_T54 l 0).f1 = 0 := h'.2
      simp only [e1, e2, impl_isTree.j0]
      rw [if_neg (by simp), if_pos (by omega)]
      simp only [Option.bind_some]
      rw [show (0 : Int) = ((0 : Nat) : Int) from rfl, isTree_l0 l hn (l.length - 1) k 0 (fun j hj => by obtain rfl : j = 0 := by omega
                                                                                                         exact h) (by omega) (by omega)]
      congr 1
      have e3 : l.length = (l.length - 1) + 1 := by omega
      unfold good
      rw [h0, Bool.true_and, e3]
      simp only [okFrom, h, Bool.true_and, Nat.add_sub_cancel]
    · have hc : (!((rd_T54 l 0).f0 == -1) || !((rd_T54 l 0).f1 == 0)) = true := by
        by_cases e : (rd_T54 l 0).f0 = -1
        · by_cases e2 : (rd_T54 l 0).f1 = 0
          · exact absurd (okB_zero.2 ⟨e, e2⟩) h
          · simp [e2]
        · simp [e]
      rw [hc]
      simp only [impl_isTree.j0, if_true]
      have e3 : l.length = (l.length - 1) + 1 := by omega
      unfold good
      rw [e3]
      simp [okFrom, Bool.eq_false_iff.2 h]
  · rw [if_neg h0]
    simp only [impl_isTree.j0, if_true]
    simp [good, Bool.eq_false_iff.2 h0]
theorem l3There_f {k : Nat} {l : List S54} {b : Int} (hn : l.length ≤ 100000000000000) (hk : l.length < k) : spec_l3There.f k l b = some (there l b) := by
  unfold spec_l3There.f there
  simp (disch := omega) only [GoodTreeS_f, Option.bind_some]
  by_cases h : good l = true
  · rw [if_pos h]
    by_cases h2 : b ≥ 0
    · rw [if_pos h2]; simp [h, show 0 ≤ b from h2]
    · rw [if_neg h2]; simp [show ¬ 0 ≤ b from h2]
  · rw [if_neg h]; simp [h]
theorem isBlockOf_f {k : Nat} {l : List S54} {b : Int} (hn : l.length ≤ 100000000000000) (hk : 30 < k) : impl_isBlockOf.f k l b = some (there l b) := by
  unfold impl_isBlockOf.f there
  simp (disch := omega) only [isTree_f, within_f, Option.bind_some]
  by_cases h : good l = true
  · rw [if_pos h, w64 (n := (l.length : Int) - 1) (by omega) (by omega)]
    congr 1
    rw [h, Bool.true_and]
    unfold inn
    congr 1
    apply propext
    omega
  · rw [if_neg h]; simp [h]
def cvB (x : S62) : S54 := ⟨x.f0, x.f1⟩
theorem rdLB_get (l : List S62) (i : Nat) (h : i < l.length) : l[i]? = some (rd_T62 l (i : Int)) := by
  simp [rd_T62, List.getD_eq_getElem?_getD, List.getElem?_eq_getElem h]
theorem toBlockS_l0 (l : List S62) (hn : l.length ≤ 100000000000000) (d : Nat) : ∀ (k : Nat) (x : List S54) (i : Nat), x.length = l.length → i + d = l.length → d < k → (∀ j, j < i → x[j]? = (l.map cvB)[j]?) →
    laws_toBlockS.l0 k l x i = some (l.map cvB) := by
  induction d with
  | zero =>
    intro k x i hx hi hk hp
    obtain ⟨k, rfl⟩ := step_k hk
    simp only [laws_toBlockS.l0]; rw [if_neg (by omega)]
    congr 1
    apply List.ext_getElem?
    intro j
    by_cases h : j < i
    · exact hp j h
    · rw [List.getElem?_eq_none (by omega), List.getElem?_eq_none (by simp; omega)]
  | succ d ih =>
    intro k x i hx hi hk hp
    obtain ⟨k, rfl⟩ := step_k hk
    simp only [laws_toBlockS.l0, laws_toBlock.f, Option.bind_some]
    rw [if_pos (by omega), if_pos (by omega), if_pos (by omega), w64s (by omega)]
    refine ih k _ (i + 1) (by simpa using hx) (by omega) (by omega) ?_
    intro j hj
    rw [Int.toNat_natCast, List.getElem?_set]
    by_cases h : i = j
    · subst h
      rw [if_pos rfl, if_pos (by omega), List.getElem?_map, rdLB_get l i (by omega)]; rfl
    · rw [if_neg h]; exact hp j (by omega)
theorem toBlockS_f {k : Nat} {l : List S62} (hn : l.length ≤ 17592186044416) (hk : l.length < k) : laws_toBlockS.f k l = some (l.map cvB) := by
  unfold laws_toBlockS.f
  rw [if_pos (by omega), if_pos (by omega)]
  exact toBlockS_l0 l (by omega) l.length k _ 0 (by simp) (by omega) hk (by intro j hj; omega)
theorem szBlockS_f {l : List S62} {left : Int} (hn : l.length ≤ 100000000000000) (h0 : 0 ≤ left) (h1 : left ≤ 100000000000) : laws_szBlockS.f l left = some (if left < l.length then -1 else left - l.length) := by
  unfold laws_szBlockS.f
  rw [w64 (n := left - (l.length : Int)) (by omega) (by omega)]
  by_cases h : left < l.length
  · rw [if_pos (by omega), if_pos h]
  · rw [if_neg (by omega), if_neg h]
theorem eqBlockS_l0 (l : List S54) (hn : l.length ≤ 100000000000000) (d : Nat) : ∀ (k i : Nat), i + d = l.length → d < k → laws_eqBlockS.l0 k l l i = some true := by
  induction d with
  | zero =>
    intro k i hi hk
    obtain ⟨k, rfl⟩ := step_k hk
    simp only [laws_eqBlockS.l0]; rw [if_neg (by omega)]
  | succ d ih =>
    intro k i hi hk
    obtain ⟨k, rfl⟩ := step_k hk
    simp only [laws_eqBlockS.l0, laws_eqBlock.f, if_true, Option.bind_some]
    rw [if_pos (by omega), if_pos (by omega), if_pos (by omega), w64s (by omega)]
    exact ih k (i + 1) (by omega) (by omega)
theorem eqBlockS_f {k : Nat} {l : List S54} (hn : l.length ≤ 100000000000000) (hk : l.length < k) : laws_eqBlockS.f k l l = some true := by
  unfold laws_eqBlockS.f
  rw [if_pos rfl]
  exact eqBlockS_l0 l hn l.length k 0 (by omega) hk
/-- The path from block 0 to a block. -/
def wayF (l : List S54) : Nat → Int → List Int
  | 0, _ => []
  | n + 1, b => if b < 0 then [] else wayF l n (par l b) ++ [b]
theorem wayF_more {l : List S54} (h : good l = true) : ∀ (n : Nat) (b : Int), b < l.length → b < n → ∀ m : Nat, n ≤ m → wayF l m b = wayF l n b := by
  intro n
  induction n with
  | zero =>
    intro b _ hb m _
    cases m with
    | zero => rfl
    | succ m => simp only [wayF]; rw [if_pos (by omega)]
  | succ n ih =>
    intro b hl hb m hm
    obtain ⟨m, rfl⟩ : ∃ q, m = q + 1 := ⟨m - 1, by omega⟩
    simp only [wayF]
    by_cases h0 : b < 0
    · rw [if_pos h0, if_pos h0]
    · rw [if_neg h0, if_neg h0]
      have := good_par h (b := b) (by omega) hl
      rw [ih (par l b) (by omega) (by omega) m (by omega)]
def way (l : List S54) (b : Int) : List Int := wayF l (b.toNat + 1) b
theorem way_neg (l : List S54) {b : Int} (h : b < 0) : way l b = [] := by
  unfold way wayF; rw [if_pos h]
theorem way_pos {l : List S54} (h : good l = true) {b : Int} (h0 : 0 ≤ b) (h1 : b < l.length) : way l b = way l (par l b) ++ [b] := by
  unfold way
  have := good_par h h0 h1
  show (if b < 0 then [] else wayF l b.toNat (par l b) ++ [b]) = _
  rw [if_neg (by omega)]
  congr 1
  by_cases e : par l b < 0
  · cases hb : b.toNat with
    | zero => simp [wayF, e]
    | succ n => simp [wayF, e]
  · exact wayF_more h _ _ (by omega) (by omega) _ (by omega)
/-- Induction along the path. -/
theorem way_ind {l : List S54} (h : good l = true) (P : Int → Prop) (hneg : P (-1)) (hpos : ∀ b : Int, 0 ≤ b → b < l.length → P (par l b) → P b) : ∀ b : Int, -1 ≤ b → b < l.length → P b := by
  have key : ∀ (n : Nat) (b : Int), b < n → -1 ≤ b → b < l.length → P b := by
    intro n
    induction n with
    | zero => intro b hb hb1 _; rw [show b = -1 by omega]; exact hneg
    | succ n ih =>
      intro b hb hb1 hl
      by_cases e : b = -1
      · rw [e]; exact hneg
      · have := good_par h (b := b) (by omega) hl
        exact hpos b (by omega) hl (ih _ (by omega) (by omega) (by omega))
  intro b h1 h2
  exact key (b + 1).toNat b (by omega) h1 h2
theorem way_len {l : List S54} (h : good l = true) : ∀ b : Int, -1 ≤ b → b < l.length → ((way l b).length : Int) ≤ b + 1 := by
  refine way_ind h _ (by rw [way_neg l (by omega)]; simp) fun b h0 h1 ih => ?_
  have := good_par h h0 h1
  rw [way_pos h h0 h1, List.length_append, List.length_singleton]
  omega
theorem way_nonempty {l : List S54} (h : good l = true) {b : Int} (h0 : 0 ≤ b) (h1 : b < l.length) : 1 ≤ (way l b).length := by
  rw [way_pos h h0 h1]; simp
theorem l3Way_f {l : List S54} (h : good l = true) : ∀ (k : Nat) (b : Int), -1 ≤ b → b < l.length → b + 1 < k → spec_l3Way.f k l b = some (way l b) := by
  intro k
  induction k with
  | zero => intro b h0 _ hk; omega
  | succ k ih =>
    intro b h0 h1 hk
    simp only [spec_l3Way.f]
    by_cases e : b < 0
    · rw [if_pos e, way_neg l e]
    · have hp := good_par h (b := b) (by omega) h1
      have hl := way_len h (par l b) (by omega) (by omega)
      have hg := good_len h
      rw [if_neg e, if_pos (by omega), if_pos h1]
      show (spec_l3Way.f k l (par l b)).bind _ = _
      rw [ih (par l b) (by omega) (by omega) (by omega)]
      simp only [Option.bind_some]
      rw [if_pos (by omega), way_pos h (by omega) h1]
theorem way_mem_le {l : List S54} (h : good l = true) : ∀ b : Int, -1 ≤ b → b < l.length → ∀ x ∈ way l b, 0 ≤ x ∧ x ≤ b := by
  refine way_ind h _ (by rw [way_neg l (by omega)]; simp) fun b h0 h1 ih => ?_
  intro x hx
  rw [way_pos h h0 h1, List.mem_append, List.mem_singleton] at hx
  have := good_par h h0 h1
  rcases hx with hx | hx
  · have := ih x hx; omega
  · omega
/-- A block is above another one, step by step. -/
def above (l : List S54) (a b : Int) : Bool := decide (a ∈ way l b)
theorem above_self {l : List S54} (h : good l = true) {b : Int} (h0 : 0 ≤ b) (h1 : b < l.length) : above l b b = true := by
  unfold above; rw [way_pos h h0 h1]; simp
theorem above_step {l : List S54} (h : good l = true) {a b : Int} (h0 : 0 ≤ b) (h1 : b < l.length) (hne : a ≠ b) : above l a b = above l a (par l b) := by
  unfold above; rw [way_pos h h0 h1]; simp [hne]
theorem above_gt {l : List S54} (h : good l = true) {a b : Int} (h0 : -1 ≤ b) (h1 : b < l.length) (hlt : b < a) : above l a b = false := by
  unfold above
  rw [decide_eq_false_iff_not]
  intro hm
  have := way_mem_le h b h0 h1 a hm
  omega
theorem l1Has_l0 (l : List Int) (x : Int) (hn : l.length ≤ 100000000000000) (d : Nat) : ∀ (k i : Nat), i + d = l.length → d < k → spec_l1Has.l0 k x l (l.length : Int) i = some (decide (x ∈ l.drop i)) := by
  induction d with
  | zero =>
    intro k i hi' hk
    obtain ⟨k, rfl⟩ := step_k hk
    simp only [spec_l1Has.l0]; rw [if_neg (by omega), List.drop_eq_nil_of_le (by omega)]; simp
  | succ d ih =>
    intro k i hi' hk
    obtain ⟨k, rfl⟩ := step_k hk
    simp only [spec_l1Has.l0]
    rw [if_pos (by omega), if_pos (by omega), if_pos (by omega), w64s (by omega), ih k (i + 1) (by omega) (by omega)]
    have e : l.drop i = rd l i :: l.drop (i + 1) := by
      rw [List.drop_eq_getElem_cons (by omega)]
      congr 1
      rw [rd_eq, List.getD_eq_getElem?_getD, List.getElem?_eq_getElem (by omega)]; rfl
    rw [e]
    by_cases h : rd l i = x
    · rw [if_pos h]; simp [h]
    · rw [if_neg h]; simp [show ¬ x = rd l i from fun h' => h h'.symm]
theorem l1Has_f {k : Nat} {l : List Int} {x : Int} (hn : l.length ≤ 100000000000000) (hk : l.length < k) : spec_l1Has.f k l x = some (decide (x ∈ l)) := by
  unfold spec_l1Has.f
  have := l1Has_l0 l x hn l.length k 0 (by omega) hk
  simpa using this
theorem l3Above_f {l : List S54} (h : good l = true) {k : Nat} {a b : Int} (h0 : -1 ≤ b) (h1 : b < l.length) (hk : 30 < k) : spec_l3Above.f k l a b = some (above l a b) := by
  unfold spec_l3Above.f
  have hg := good_len h
  have hl := way_len h b h0 h1
  rw [l3Way_f h k b h0 h1 (by omega)]
  simp only [Option.bind_some]
  rw [l1Has_f (by omega) (by omega)]
  rfl
theorem above_root {l : List S54} (h : good l = true) : ∀ b : Int, -1 ≤ b → b < l.length → 0 ≤ b → above l 0 b = true := by
  refine way_ind h _ (by intro h; omega) fun b h0 h1 ih => ?_
  intro _
  by_cases e : b = 0
  · subst e; exact above_self h (by omega) h1
  · have hp := good_pos h (b := b) (by omega) h1
    rw [above_step h h0 h1 (by omega)]
    exact ih hp.1
theorem above_le {l : List S54} (h : good l = true) {a b : Int} (h0 : -1 ≤ b) (h1 : b < l.length) (hab : above l a b = true) : 0 ≤ a ∧ a ≤ b := way_mem_le h b h0 h1 a (of_decide_eq_true hab)
/-- m is the deepest block above both. -/
def IsMeet (l : List S54) (a b m : Int) : Prop := above l m a = true ∧ above l m b = true ∧ ∀ x, above l x a = true → above l x b = true → x ≤ m
theorem meet_one {l : List S54} {a b m n : Int} (h1 : IsMeet l a b m) (h2 : IsMeet l a b n) : m = n := by
  have := h1.2.2 n h2.1 h2.2.1
  have := h2.2.2 m h1.1 h1.2.1
  omega
theorem meet_up {l : List S54} (h : good l = true) {a b m : Int} (h0 : 0 ≤ a) (h1 : a < l.length) (hn : above l a b = false) (hm : IsMeet l (par l a) b m) : IsMeet l a b m := by
  have hp := good_par h h0 h1
  have hle := above_le h hp.1 (by omega) hm.1
  refine ⟨by rw [above_step h h0 h1 (by omega)]; exact hm.1, hm.2.1, fun x hx hxb => ?_⟩
  by_cases e : x = a
  · subst e; rw [hn] at hxb; cases hxb
  · rw [above_step h h0 h1 e] at hx
    exact hm.2.2 x hx hxb
theorem meet_symm {l : List S54} {a b m : Int} (h : IsMeet l a b m) : IsMeet l b a m := ⟨h.2.1, h.1, fun x h1 h2 => h.2.2 x h2 h1⟩
theorem l3Meet_l0 {l : List S54} (h : good l = true) {b : Int} (hb0 : 0 ≤ b) (hb1 : b < l.length) : ∀ a : Int, -1 ≤ a → a < l.length → 0 ≤ a → ∃ m, IsMeet l a b m ∧ ∀ k : Nat, a + 50 < k → spec_l3Meet.l0 k l a b = some m := by
  refine way_ind h _ (by intro h; omega) fun a h0 h1 ih => ?_
  intro _
  by_cases e : above l a b = true
  · refine ⟨a, ⟨above_self h h0 h1, e, fun x hx _ => (above_le h (by omega) h1 hx).2⟩, fun k hk => ?_⟩
    obtain ⟨k, rfl⟩ : ∃ m, k = m + 1 := ⟨k - 1, by omega⟩
    simp only [spec_l3Meet.l0]
    rw [l3Above_f h (by omega) hb1 (by omega)]
    simp only [Option.bind_some]
    rw [if_pos e]
  · have ha : a ≠ 0 := by intro ha; subst ha; exact e (above_root h b (by omega) hb1 hb0)
    have hp := good_pos h (b := a) (by omega) h1
    obtain ⟨m, hm, hk⟩ := ih hp.1
    refine ⟨m, meet_up h h0 h1 (Bool.eq_false_iff.2 e) hm, fun k hk2 => ?_⟩
    obtain ⟨k, rfl⟩ : ∃ m, k = m + 1 := ⟨k - 1, by omega⟩
    simp only [spec_l3Meet.l0]
    rw [l3Above_f h (by omega) hb1 (by omega)]
    simp only [Option.bind_some]
    rw [if_neg e, if_pos h0, if_pos h1]
    exact hk k (by omega)
theorem meetOf_l0 {l : List S54} (h : good l = true) : ∀ (n : Nat) (a b : Int), 0 ≤ a → a < l.length → 0 ≤ b → b < l.length → a + b < n → ∃ m, IsMeet l a b m ∧ ∀ k : Nat, a + b + 1 < k → impl_meetOf.l0 k l a b = some m := by
  intro n
  induction n with
  | zero => intro a b _ _ _ _ hn; omega
  | succ n ih =>
    intro a b ha0 ha1 hb0 hb1 hn
    by_cases e : a = b
    · subst e
      refine ⟨a, ⟨above_self h ha0 ha1, above_self h ha0 ha1, fun x hx _ => (above_le h (by omega) ha1 hx).2⟩, fun k hk => ?_⟩
      obtain ⟨k, rfl⟩ : ∃ m, k = m + 1 := ⟨k - 1, by omega⟩
      simp only [impl_meetOf.l0, if_true]
    · by_cases e2 : a > b
      · have hp := good_pos h (b := a) (by omega) ha1
        obtain ⟨m, hm, hk⟩ := ih (par l a) b hp.1 (by omega) hb0 hb1 (by omega)
        refine ⟨m, meet_up h ha0 ha1 (above_gt h (by omega) hb1 e2) hm, fun k hk2 => ?_⟩
        obtain ⟨k, rfl⟩ : ∃ m, k = m + 1 := ⟨k - 1, by omega⟩
        simp only [impl_meetOf.l0]
        rw [if_neg e, if_pos e2, if_pos ha0, if_pos ha1]
        exact hk k (by omega)
      · have hp := good_pos h (b := b) (by omega) hb1
        obtain ⟨m, hm, hk⟩ := ih a (par l b) ha0 ha1 hp.1 (by omega) (by omega)
        refine ⟨m, meet_symm (meet_up h hb0 hb1 (above_gt h (by omega) ha1 (by omega)) (meet_symm hm)), fun k hk2 => ?_⟩
        obtain ⟨k, rfl⟩ : ∃ m, k = m + 1 := ⟨k - 1, by omega⟩
        simp only [impl_meetOf.l0]
        rw [if_neg e, if_neg e2, if_pos hb0, if_pos hb1]
        exact hk k (by omega)
open Classical in
noncomputable def meet (l : List S54) (a b : Int) : Int := if h : ∃ m, IsMeet l a b m then h.choose else 0
theorem meet_eq {l : List S54} {a b m : Int} (h : IsMeet l a b m) : meet l a b = m := by
  unfold meet
  have he : ∃ m, IsMeet l a b m := ⟨m, h⟩
  rw [dif_pos he]
  exact meet_one he.choose_spec h
theorem meet_is {l : List S54} (h : good l = true) {a b : Int} (ha0 : 0 ≤ a) (ha1 : a < l.length) (hb0 : 0 ≤ b) (hb1 : b < l.length) : IsMeet l a b (meet l a b) := by
  obtain ⟨m, hm, _⟩ := meetOf_l0 h (a + b + 1).toNat a b ha0 ha1 hb0 hb1 (by omega)
  rw [meet_eq hm]; exact hm
theorem meetOf_f {l : List S54} (h : good l = true) {k : Nat} {a b : Int} (ha0 : 0 ≤ a) (ha1 : a < l.length) (hb0 : 0 ≤ b) (hb1 : b < l.length) (hk : 60 < k) : impl_meetOf.f k l a b = some (meet l a b) := by
  obtain ⟨m, hm, hk2⟩ := meetOf_l0 h (a + b + 1).toNat a b ha0 ha1 hb0 hb1 (by omega)
  have hg := good_len h
  unfold impl_meetOf.f
  rw [hk2 k (by omega), meet_eq hm]
noncomputable def meetAt (l : List S54) (a b : Int) : Int × Bool := if there l a && there l b then (meet l a b, true) else (0, false)
theorem spec_MeetOf_f {k : Nat} {l : List S54} {a b : Int} (hn : l.length ≤ 100000000000000) (hk : l.length + 200 < k) : spec_MeetOf.f k l a b = some (meetAt l a b) := by
  unfold spec_MeetOf.f meetAt spec_l3Meet.f
  simp (disch := omega) only [l3There_f, Option.bind_some]
  by_cases h1 : there l a = true
  · by_cases h2 : there l b = true
    · have h3 := there_iff.1 h1
      have h4 := there_iff.1 h2
      have hg := good_len h3.1
      obtain ⟨m, hm, hk2⟩ := l3Meet_l0 h3.1 h4.2.1 h4.2.2 a (by omega) h3.2.2 h3.2.1
      rw [if_pos h1, if_pos h2, hk2 k (by omega), meet_eq hm]
      simp [h1, h2]
    · simp [h1, h2]
  · simp [h1]
theorem impl_MeetByTour_f {k : Nat} {l : List S54} {a b : Int} (hn : l.length ≤ 100000000000000) (hk : l.length + 200 < k) : impl_MeetByTour.f k l a b = some (meetAt l a b) := by
  unfold impl_MeetByTour.f meetAt
  simp (disch := omega) only [isBlockOf_f, Option.bind_some]
  by_cases h1 : there l a = true
  · by_cases h2 : there l b = true
    · have h3 := there_iff.1 h1
      have h4 := there_iff.1 h2
      rw [if_pos h1, if_pos h2, meetOf_f h3.1 h3.2.1 h3.2.2 h4.2.1 h4.2.2 (by omega)]
      simp [h1, h2]
    · simp [h1, h2]
  · simp [h1]
theorem spec_MeetByTour_f {k : Nat} {l : List S54} {a b : Int} (hn : l.length ≤ 100000000000000) (hk : l.length + 200 < k) : spec_MeetByTour.f k l a b = some (meetAt l a b) := by
  unfold spec_MeetByTour.f
  rw [spec_MeetOf_f hn hk]; rfl
theorem FnExactMeetByTour : ∀ (l0 : List (S62)) (a1 : Int) (a2 : Int), l0.length * 16 ≤ 140737488351232 → (∀ v ∈ l0, (Lit.int .i64 v.f0).wf = true ∧ (Lit.int .i64 v.f1).wf = true) → (Lit.int .i64 a1).wf = true → (Lit.int .i64 a2).wf = true → ∃ k, laws_FnExactMeetByTour.f k l0 a1 a2 = some true := by
  intro l a b hl
  intros
  suffices h : ∀ k, 1048900 ≤ k → laws_FnExactMeetByTour.f k l a b = some true from ⟨_, h _ (Nat.le_refl _)⟩
  intro k hk
  have hm : (l.map cvB).length = l.length := by simp
  unfold laws_FnExactMeetByTour.f
  simp (disch := omega) only [szBlockS_f, Option.bind_some]
  by_cases h : (1048576 : Int) < l.length
  · rw [if_pos h, if_pos (by omega)]
  · rw [if_neg h, if_neg (by omega)]
    obtain ⟨m, hm1, hm2⟩ : ∃ m, k = m + 1 ∧ 1048800 ≤ m := ⟨k - 1, by omega, by omega⟩
    rw [hm1]
    simp (disch := omega) only [toBlockS_f, spec_MeetByTour_f, impl_MeetByTour_f, eqBlockS_f, Option.bind_some, bne_self_eq_false, laws_FnExactMeetByTour.j0, Bool.false_eq_true, if_false, if_true]

end Go.Proofs.Ytinhgkemalogiaa.Pure
