/- The program's LeapsOf and the reference's return the same at every list of blocks, in memory of their own, and leave the list as it is. No condition. -/
import Derived.Test.YtinhgkemalogiaaPFnExactLeapsOfx0
import Derived.Test.YtinhgkemalogiaaPFnExactLeapsOfx1
import Derived.Test.YtinhgkemalogiaaPFnExactLeapsOfx2
import Derived.Test.YtinhgkemalogiaaPFnExactLeapsOfx3
import Derived.Test.YtinhgkemalogiaaPFnExactLeapsOfx4
import Derived.Test.YtinhgkemalogiaaPFnExactLeapsOfx5
import Derived.Test.YtinhgkemalogiaaPFnExactLeapsOfx6
import Derived.Test.YtinhgkemalogiaaPFnExactLeapsOfx7
namespace Go.Proofs.Ytinhgkemalogiaa.Pure
open Go.RowKit Go.Proofs.Ytinhgkemalogiaa.PFnExactLeapsOf Go.Proofs.YtinhgkemalogiaaW.PrintWords Go.Proofs.YtinhgkemalogiaaW.PrintLast Go.Proofs.YtinhgkemalogiaaW.PrintMore
set_option linter.unusedVariables false
set_option linter.unusedSimpArgs false
theorem w64 {n : Int} (h0 : -9223372036854775808 ≤ n) (h1 : n ≤ 9223372036854775807) : wrap64 n = n := by unfold wrap64; omega
theorem w64s {i : Nat} (h1 : i ≤ 1000000000000000) : wrap64 ((i : Int) + 1) = ((i + 1 : Nat) : Int) := by rw [w64 (by omega) (by omega)]; omega
theorem rd_eq (l : List Int) (i : Nat) : rd l (i : Int) = l.getD i 0 := by simp [rd]
theorem rd_get (l : List Int) (i : Nat) (h : i < l.length) : l[i]? = some (rd l (i : Int)) := by
  simp [rd, List.getD_eq_getElem?_getD, List.getElem?_eq_getElem h]
theorem rd_mem (l : List Int) (i : Nat) (h : i < l.length) : rd l (i : Int) ∈ l := List.mem_of_getElem? (rd_get l i h)
theorem step_k {k d : Nat} (h : d < k) : ∃ m, k = m + 1 := ⟨k - 1, by omega⟩
def inn (a b c : Int) : Bool := decide (b ≤ a ∧ a ≤ c)
theorem inn_t {a b c : Int} : inn a b c = true ↔ b ≤ a ∧ a ≤ c := by simp [inn]
theorem inn_f {a b c : Int} : inn a b c = false ↔ a < b ∨ c < a := by simp [inn]; omega
theorem l1In_f (a b c : Int) : spec_l1In.f a b c = some (inn a b c) := by
  unfold spec_l1In.f inn
  by_cases h : a ≥ b
  · rw [if_pos h]; simp [show b ≤ a from h]
  · rw [if_neg h]; simp [show ¬ b ≤ a from h]
theorem within_f (a b c : Int) : impl_within.f a b c = some (inn a b c) := by
  unfold impl_within.f inn
  by_cases h : a ≥ b
  · rw [if_pos h]; simp [show b ≤ a from h]
  · rw [if_neg h]; simp [show ¬ b ≤ a from h]
def par (l : List S54) (b : Int) : Int := (rd_T54 l b).f0
def slt (l : List S54) (b : Int) : Int := (rd_T54 l b).f1
/-- Block i is in its place. -/
def okB (l : List S54) (i : Nat) : Bool := if i = 0 then decide (par l 0 = -1) && decide (slt l 0 = 0) else inn (par l i) 0 ((i : Int) - 1) && inn (slt l i) (slt l (par l i) + 1) 4000
def okFrom (l : List S54) : Nat → Nat → Bool
  | _, 0 => true
  | i, d + 1 => okB l i && okFrom l (i + 1) d
def good (l : List S54) : Bool := inn (l.length : Int) 1 24 && okFrom l 0 l.length
theorem okFrom_iff (l : List S54) : ∀ d i, okFrom l i d = true ↔ ∀ j, i ≤ j → j < i + d → okB l j = true := by
  intro d
  induction d with
  | zero => intro i; simp only [okFrom, true_iff]; intro j h1 h2; omega
  | succ d ih =>
    intro i
    simp only [okFrom, Bool.and_eq_true, ih]
    constructor
    · rintro ⟨h1, h3⟩ j hj hj2
      by_cases e : j = i
      · subst e; exact h1
      · exact h3 j (by omega) (by omega)
    · intro h
      exact ⟨h i (Nat.le_refl _) (by omega), fun j hj hj2 => h j (by omega) (by omega)⟩
theorem okB_zero {l : List S54} : okB l 0 = true ↔ par l 0 = -1 ∧ slt l 0 = 0 := by simp [okB]
theorem okB_pos {l : List S54} {i : Nat} (h : i ≠ 0) : okB l i = true ↔ (0 ≤ par l i ∧ par l i ≤ (i : Int) - 1) ∧ slt l (par l i) + 1 ≤ slt l i ∧ slt l i ≤ 4000 := by
  simp only [okB, if_neg h, Bool.and_eq_true, inn_t]
/-- What is in its place has a slot from 0 to 4000. -/
theorem okB_slot (l : List S54) (n : Nat) (h : ∀ j, j < n → okB l j = true) : ∀ j, j < n → 0 ≤ slt l j ∧ slt l j ≤ 4000 := by
  intro j
  induction j using Nat.strongRecOn with
  | _ j ih =>
    intro hj
    have h1 := h j hj
    by_cases e : j = 0
    · subst e
      have h2 := (okB_zero.1 h1).2
      have e0 : ((0 : Nat) : Int) = 0 := rfl
      rw [e0]; omega
    · have h2 := (okB_pos e).1 h1
      have h3 := ih (par l j).toNat (by omega) (by omega)
      rw [show (((par l j).toNat : Nat) : Int) = par l j by omega] at h3
      omega
theorem good_len {l : List S54} (h : good l = true) : 1 ≤ l.length ∧ l.length ≤ 24 := by
  simp only [good, Bool.and_eq_true, inn_t] at h
  omega
theorem good_ok {l : List S54} (h : good l = true) : ∀ j, j < l.length → okB l j = true := by
  simp only [good, Bool.and_eq_true, okFrom_iff] at h
  exact fun j hj => h.2 j (by omega) (by omega)
theorem good_root {l : List S54} (h : good l = true) : par l 0 = -1 ∧ slt l 0 = 0 := okB_zero.1 (good_ok h 0 (by have := good_len h; omega))
theorem good_pos {l : List S54} (h : good l = true) {b : Int} (h0 : 0 < b) (h1 : b < l.length) : 0 ≤ par l b ∧ par l b < b ∧ slt l (par l b) < slt l b ∧ slt l b ≤ 4000 := by
  have h2 := (okB_pos (l := l) (i := b.toNat) (by omega)).1 (good_ok h _ (by omega))
  rw [show ((b.toNat : Nat) : Int) = b by omega] at h2
  omega
theorem good_slot {l : List S54} (h : good l = true) {b : Int} (h0 : 0 ≤ b) (h1 : b < l.length) : 0 ≤ slt l b ∧ slt l b ≤ 4000 := by
  have := okB_slot l l.length (good_ok h) b.toNat (by omega)
  rwa [show ((b.toNat : Nat) : Int) = b by omega] at this
theorem good_par {l : List S54} (h : good l = true) {b : Int} (h0 : 0 ≤ b) (h1 : b < l.length) : -1 ≤ par l b ∧ par l b < b := by
  by_cases e : b = 0
  · subst e; rw [(good_root h).1]; omega
  · have := good_pos h (b := b) (by omega) h1; omega
def there (l : List S54) (b : Int) : Bool := good l && decide (0 ≤ b ∧ b < l.length)
theorem there_iff {l : List S54} {b : Int} : there l b = true ↔ good l = true ∧ 0 ≤ b ∧ b < l.length := by simp [there]
theorem GoodTreeS_l0 (l : List S54) (hn : l.length ≤ 100000000000000) (d : Nat) : ∀ (k i : Nat), (∀ j, j < i → okB l j = true) → i + d = l.length → d < k → spec_GoodTree.l0 k l l (l.length : Int) i = some (okFrom l i d && inn (l.length : Int) 1 24) := by
  induction d with
  | zero =>
    intro k i _ hi' hk
    obtain ⟨k, rfl⟩ := step_k hk
    simp only [spec_GoodTree.l0, l1In_f, Option.bind_some]; rw [if_neg (by omega)]; simp [okFrom]
  | succ d ih =>
    intro k i hok hi' hk
    obtain ⟨k, rfl⟩ := step_k hk
    have next : okB l i = true → spec_GoodTree.l0 k l l (l.length : Int) ((i + 1 : Nat) : Int) = some (okFrom l (i + 1) d && inn (l.length : Int) 1 24) := fun h => ih k (i + 1) (fun j hj => by
      by_cases e : j = i
      · subst e; exact h
      · exact hok j (by omega)) (by omega) (by omega)
    simp only [spec_GoodTree.l0, l1In_f, Option.bind_some]
    rw [if_pos (by omega), if_pos (by omega), if_pos (by omega), w64s (by omega)]
    by_cases e : i = 0
    · subst e
      rw [if_pos (by omega)]
      by_cases h1 : par l 0 = -1
      · rw [if_pos (show (rd_T54 l ((0 : Nat) : Int)).f0 = -1 from h1)]
        by_cases h2 : slt l 0 = 0
        · rw [if_pos (show (rd_T54 l ((0 : Nat) : Int)).f1 = 0 from h2), next (okB_zero.2 ⟨h1, h2⟩)]
          simp [okFrom, okB_zero.2 ⟨h1, h2⟩]
        · rw [if_neg (show ¬ (rd_T54 l ((0 : Nat) : Int)).f1 = 0 from h2)]
          have : okB l 0 = false := by rw [Bool.eq_false_iff]; intro h; exact h2 (okB_zero.1 h).2
          simp [okFrom, this]
      · rw [if_neg (show ¬ (rd_T54 l ((0 : Nat) : Int)).f0 = -1 from h1)]
        have : okB l 0 = false := by rw [Bool.eq_false_iff]; intro h; exact h1 (okB_zero.1 h).1
        simp [okFrom, this]
    · rw [if_neg (by omega), w64 (n := (i : Int) - 1) (by omega) (by omega)]
      show (if inn (par l i) 0 ((i : Int) - 1) = true then _ else _) = _
      by_cases h1 : inn (par l i) 0 ((i : Int) - 1) = true
      · rw [if_pos h1]
        have h1' := inn_t.1 h1
        have hp := okB_slot l i hok (par l i).toNat (by omega)
        rw [show (((par l i).toNat : Nat) : Int) = par l i by omega] at hp
        show (if inn (slt l i) 1 4000 = true then (if 0 ≤ par l i then (if par l i < (l.length : Int) then (if slt l i ≤ slt l (par l i) then _ else _) else _) else _) else _) = _
        by_cases h2 : inn (slt l i) (slt l (par l i) + 1) 4000 = true
        · have h2' := inn_t.1 h2
          rw [if_pos (inn_t.2 ⟨by omega, h2'.2⟩), if_pos h1'.1, if_pos (by omega), if_neg (by omega), next ((okB_pos e).2 ⟨h1', h2'⟩)]
          simp [okFrom, (okB_pos e).2 ⟨h1', h2'⟩]
        · have hb : okB l i = false := by
            rw [Bool.eq_false_iff]; intro h; exact h2 (inn_t.2 ((okB_pos e).1 h).2)
          have h2' := inn_f.1 (Bool.eq_false_iff.2 h2)
          simp only [okFrom, hb, Bool.false_and]
          by_cases h3 : inn (slt l i) 1 4000 = true
          · have h3' := inn_t.1 h3
            rw [if_pos h3, if_pos h1'.1, if_pos (by omega), if_pos (by omega)]
          · rw [if_neg h3]
      · rw [if_neg h1]
        have hb : okB l i = false := by
          rw [Bool.eq_false_iff]; intro h; exact h1 (inn_t.2 ((okB_pos e).1 h).1)
        simp [okFrom, hb]
theorem GoodTreeS_f {k : Nat} {l : List S54} (hn : l.length ≤ 100000000000000) (hk : l.length < k) : spec_GoodTree.f k l = some (good l) := by
  unfold spec_GoodTree.f good
  rw [show (0 : Int) = ((0 : Nat) : Int) from rfl, GoodTreeS_l0 l hn l.length k 0 (fun j hj => by omega) (by omega) hk, Bool.and_comm]
theorem drop1 (l : List S54) (i : Nat) : rd_T54 (l.drop 1) (i : Int) = rd_T54 l ((i + 1 : Nat) : Int) := by
  simp [rd_T54, List.getD_eq_getElem?_getD, List.getElem?_drop, Nat.add_comm]
theorem isTree_l0 (l : List S54) (hn : l.length ≤ 100000000000000) (d : Nat) : ∀ (k i : Nat), (∀ j, j < i + 1 → okB l j = true) → i + 1 + d = l.length → d < k → impl_isTree.l0 k l (l.drop 1) (((l.drop 1).length : Nat) : Int) i = some (okFrom l (i + 1) d) := by
  induction d with
  | zero =>
    intro k i _ hi' hk
    obtain ⟨k, rfl⟩ := step_k hk
    simp only [impl_isTree.l0]; rw [if_neg (by simp; omega)]; simp [okFrom]
  | succ d ih =>
    intro k i hok hi' hk
    obtain ⟨k, rfl⟩ := step_k hk
    have hlen : (l.drop 1).length = l.length - 1 := by simp
    simp only [impl_isTree.l0, within_f, Option.bind_some]
    rw [if_pos (by rw [hlen]; omega), if_pos (by omega), if_pos (by rw [hlen]; omega), w64s (by omega), drop1]
    show (if inn (par l ((i + 1 : Nat) : Int)) 0 (i : Int) = true then (if 0 ≤ par l ((i + 1 : Nat) : Int) then (if par l ((i + 1 : Nat) : Int) < (l.length : Int) then (if inn (slt l ((i + 1 : Nat) : Int)) (wrap64 (slt l (par l ((i + 1 : Nat) : Int)) + 1)) 4000 = true then _ else _) else _) else _) else _) = _
    by_cases h1 : inn (par l ((i + 1 : Nat) : Int)) 0 (i : Int) = true
    · rw [if_pos h1]
      have h1' := inn_t.1 h1
      have hp := okB_slot l (i + 1) hok (par l ((i + 1 : Nat) : Int)).toNat (by omega)
      rw [show (((par l ((i + 1 : Nat) : Int)).toNat : Nat) : Int) = par l ((i + 1 : Nat) : Int) by omega] at hp
      rw [if_pos h1'.1, if_pos (by omega), w64 (by omega) (by omega)]
      by_cases h2 : inn (slt l ((i + 1 : Nat) : Int)) (slt l (par l ((i + 1 : Nat) : Int)) + 1) 4000 = true
      · have hb : okB l (i + 1) = true := (okB_pos (by omega)).2 ⟨⟨h1'.1, by omega⟩, inn_t.1 h2⟩
        rw [if_pos h2, ih k (i + 1) (fun j hj => by
          by_cases e : j = i + 1
          · subst e; exact hb
          · exact hok j (by omega)) (by omega) (by omega)]
        simp [okFrom, hb]
      · have hb : okB l (i + 1) = false := by
          rw [Bool.eq_false_iff]; intro h; exact h2 (inn_t.2 ((okB_pos (by omega)).1 h).2)
        rw [if_neg h2]; simp [okFrom, hb]
    · have hb : okB l (i + 1) = false := by
        rw [Bool.eq_false_iff]; intro h
        have h3 := ((okB_pos (by omega)).1 h).1
        exact h1 (inn_t.2 ⟨h3.1, by omega⟩)
      rw [if_neg h1]; simp [okFrom, hb]
theorem isTree_f {k : Nat} {l : List S54} (hn : l.length ≤ 100000000000000) (hk : 30 < k) : impl_isTree.f k l = some (good l) := by
  obtain ⟨k, rfl⟩ := step_k hk
  unfold impl_isTree.f
  simp only [within_f, Option.bind_some]
  by_cases h0 : inn (l.length : Int) 1 24 = true
  · have h0' := inn_t.1 h0
    rw [if_pos h0, if_pos (by omega)]
    by_cases h : okB l 0 = true
    · have h' := okB_zero.1 h
      have e1 : (rd_T54 l 0).f0 = -1 := h'.1
      have e2 : (rd_T54 l 0).f1 = 0 := h'.2
      simp only [e1, e2, impl_isTree.j0]
      rw [if_neg (by simp), if_pos (by omega)]
      simp only [Option.bind_some]
      rw [show (0 : Int) = ((0 : Nat) : Int) from rfl, isTree_l0 l hn (l.length - 1) k 0 (fun j hj => by obtain rfl : j = 0 := by omega
                                                                                                         exact h) (by omega) (by omega)]
      congr 1
      have e3 : l.length = (l.length - 1) + 1 := by omega
      unfold good
      rw [h0, Bool.true_and, e3]
      simp only [okFrom, h, Bool.true_and, Nat.add_sub_cancel]
    · have hc : (!((rd_T54 l 0).f0 == -1) || !((rd_T54 l 0).f1 == 0)) = true := by
        by_cases e : (rd_T54 l 0).f0 = -1
        · by_cases e2 : (rd_T54 l 0).f1 = 0
          · exact absurd (okB_zero.2 ⟨e, e2⟩) h
          · simp [e2]
        · simp [e]
      rw [hc]
      simp only [impl_isTree.j0, if_true]
      have e3 : l.length = (l.length - 1) + 1 := by omega
      unfold good
      rw [e3]
      simp [okFrom, Bool.eq_false_iff.2 h]
  · rw [if_neg h0]
    simp only [impl_isTree.j0, if_true]
    simp [good, Bool.eq_false_iff.2 h0]
def cvB (x : S62) : S54 := ⟨x.f0, x.f1⟩
theorem rdLB_get (l : List S62) (i : Nat) (h : i < l.length) : l[i]? = some (rd_T62 l (i : Int)) := by
  simp [rd_T62, List.getD_eq_getElem?_getD, List.getElem?_eq_getElem h]
theorem toBlockS_l0 (l : List S62) (hn : l.length ≤ 100000000000000) (d : Nat) : ∀ (k : Nat) (x : List S54) (i : Nat), x.length = l.length → i + d = l.length → d < k → (∀ j, j < i → x[j]? = (l.map cvB)[j]?) →
    laws_toBlockS.l0 k l x i = some (l.map cvB) := by
  induction d with
  | zero =>
    intro k x i hx hi hk hp
    obtain ⟨k, rfl⟩ := step_k hk
    simp only [laws_toBlockS.l0]; rw [if_neg (by omega)]
    congr 1
    apply List.ext_getElem?
    intro j
    by_cases h : j < i
    · exact hp j h
    · rw [List.getElem?_eq_none (by omega), List.getElem?_eq_none (by simp; omega)]
  | succ d ih =>
    intro k x i hx hi hk hp
    obtain ⟨k, rfl⟩ := step_k hk
    simp only [laws_toBlockS.l0, laws_toBlock.f, Option.bind_some]
    rw [if_pos (by omega), if_pos (by omega), if_pos (by omega), w64s (by omega)]
    refine ih k _ (i + 1) (by simpa using hx) (by omega) (by omega) ?_
    intro j hj
    rw [Int.toNat_natCast, List.getElem?_set]
    by_cases h : i = j
    · subst h
      rw [if_pos rfl, if_pos (by omega), List.getElem?_map, rdLB_get l i (by omega)]; rfl
    · rw [if_neg h]; exact hp j (by omega)
theorem toBlockS_f {k : Nat} {l : List S62} (hn : l.length ≤ 17592186044416) (hk : l.length < k) : laws_toBlockS.f k l = some (l.map cvB) := by
  unfold laws_toBlockS.f
  rw [if_pos (by omega), if_pos (by omega)]
  exact toBlockS_l0 l (by omega) l.length k _ 0 (by simp) (by omega) hk (by intro j hj; omega)
theorem szBlockS_f {l : List S62} {left : Int} (hn : l.length ≤ 100000000000000) (h0 : 0 ≤ left) (h1 : left ≤ 100000000000) : laws_szBlockS.f l left = some (if left < l.length then -1 else left - l.length) := by
  unfold laws_szBlockS.f
  rw [w64 (n := left - (l.length : Int)) (by omega) (by omega)]
  by_cases h : left < l.length
  · rw [if_pos (by omega), if_pos h]
  · rw [if_neg (by omega), if_neg h]
theorem eqBlockS_l0 (l : List S54) (hn : l.length ≤ 100000000000000) (d : Nat) : ∀ (k i : Nat), i + d = l.length → d < k → laws_eqBlockS.l0 k l l i = some true := by
  induction d with
  | zero =>
    intro k i hi hk
    obtain ⟨k, rfl⟩ := step_k hk
    simp only [laws_eqBlockS.l0]; rw [if_neg (by omega)]
  | succ d ih =>
    intro k i hi hk
    obtain ⟨k, rfl⟩ := step_k hk
    simp only [laws_eqBlockS.l0, laws_eqBlock.f, if_true, Option.bind_some]
    rw [if_pos (by omega), if_pos (by omega), if_pos (by omega), w64s (by omega)]
    exact ih k (i + 1) (by omega) (by omega)
theorem eqBlockS_f {k : Nat} {l : List S54} (hn : l.length ≤ 100000000000000) (hk : l.length < k) : laws_eqBlockS.f k l l = some true := by
  unfold laws_eqBlockS.f
  rw [if_pos rfl]
  exact eqBlockS_l0 l hn l.length k 0 (by omega) hk
/-- The path from block 0 to a block. -/
def wayF (l : List S54) : Nat → Int → List Int
  | 0, _ => []
  | n + 1, b => if b < 0 then [] else wayF l n (par l b) ++ [b]
theorem wayF_more {l : List S54} (h : good l = true) : ∀ (n : Nat) (b : Int), b < l.length → b < n → ∀ m : Nat, n ≤ m → wayF l m b = wayF l n b := by
  intro n
  induction n with
  | zero =>
    intro b _ hb m _
    cases m with
    | zero => rfl
    | succ m => simp only [wayF]; rw [if_pos (by omega)]
  | succ n ih =>
    intro b hl hb m hm
    obtain ⟨m, rfl⟩ : ∃ q, m = q + 1 := ⟨m - 1, by omega⟩
    simp only [wayF]
    by_cases h0 : b < 0
    · rw [if_pos h0, if_pos h0]
    · rw [if_neg h0, if_neg h0]
      have := good_par h (b := b) (by omega) hl
      rw [ih (par l b) (by omega) (by omega) m (by omega)]
def way (l : List S54) (b : Int) : List Int := wayF l (b.toNat + 1) b
theorem way_neg (l : List S54) {b : Int} (h : b < 0) : way l b = [] := by
  unfold way wayF; rw [if_pos h]
theorem way_pos {l : List S54} (h : good l = true) {b : Int} (h0 : 0 ≤ b) (h1 : b < l.length) : way l b = way l (par l b) ++ [b] := by
  unfold way
  have := good_par h h0 h1
  show (if b < 0 then [] else wayF l b.toNat (par l b) ++ [b]) = _
  rw [if_neg (by omega)]
  congr 1
  by_cases e : par l b < 0
  · cases hb : b.toNat with
    | zero => simp [wayF, e]
    | succ n => simp [wayF, e]
  · exact wayF_more h _ _ (by omega) (by omega) _ (by omega)
/-- Induction along the path. -/
theorem way_ind {l : List S54} (h : good l = true) (P : Int → Prop) (hneg : P (-1)) (hpos : ∀ b : Int, 0 ≤ b → b < l.length → P (par l b) → P b) : ∀ b : Int, -1 ≤ b → b < l.length → P b := by
  have key : ∀ (n : Nat) (b : Int), b < n → -1 ≤ b → b < l.length → P b := by
    intro n
    induction n with
    | zero => intro b hb hb1 _; rw [show b = -1 by omega]; exact hneg
    | succ n ih =>
      intro b hb hb1 hl
      by_cases e : b = -1
      · rw [e]; exact hneg
      · have := good_par h (b := b) (by omega) hl
        exact hpos b (by omega) hl (ih _ (by omega) (by omega) (by omega))
  intro b h1 h2
  exact key (b + 1).toNat b (by omega) h1 h2
theorem way_len {l : List S54} (h : good l = true) : ∀ b : Int, -1 ≤ b → b < l.length → ((way l b).length : Int) ≤ b + 1 := by
  refine way_ind h _ (by rw [way_neg l (by omega)]; simp) fun b h0 h1 ih => ?_
  have := good_par h h0 h1
  rw [way_pos h h0 h1, List.length_append, List.length_singleton]
  omega
theorem way_nonempty {l : List S54} (h : good l = true) {b : Int} (h0 : 0 ≤ b) (h1 : b < l.length) : 1 ≤ (way l b).length := by
  rw [way_pos h h0 h1]; simp
theorem l3Way_f {l : List S54} (h : good l = true) : ∀ (k : Nat) (b : Int), -1 ≤ b → b < l.length → b + 1 < k → spec_l3Way.f k l b = some (way l b) := by
  intro k
  induction k with
  | zero => intro b h0 _ hk; omega
  | succ k ih =>
    intro b h0 h1 hk
    simp only [spec_l3Way.f]
    by_cases e : b < 0
    · rw [if_pos e, way_neg l e]
    · have hp := good_par h (b := b) (by omega) h1
      have hl := way_len h (par l b) (by omega) (by omega)
      have hg := good_len h
      rw [if_neg e, if_pos (by omega), if_pos h1]
      show (spec_l3Way.f k l (par l b)).bind _ = _
      rw [ih (par l b) (by omega) (by omega) (by omega)]
      simp only [Option.bind_some]
      rw [if_pos (by omega), way_pos h (by omega) h1]
theorem rd_set (x : List Int) (i j : Nat) (v : Int) (h : i < x.length) : rd (x.set i v) (j : Int) = if i = j then v else rd x j := by
  rw [rd_eq, rd_eq, List.getD_eq_getElem?_getD, List.getD_eq_getElem?_getD, List.getElem?_set]
  by_cases e : i = j
  · rw [if_pos e, if_pos e, if_pos (by omega)]; rfl
  · rw [if_neg e, if_neg e]
theorem Reverse_l0 (o : List Int) (hn : o.length ≤ 1000000000) : ∀ (d k i j : Nat) (x : List Int), x.length = o.length → i + j + 1 = o.length → j ≤ i + d → d < k → (∀ t : Nat, t < o.length → rd x t = if t < i ∨ j < t then rd o ((o.length - 1 - t : Nat) : Int) else rd o t) →
    slices_Reverse_int_int.l0 k x (i : Int) (j : Int) = some o.reverse := by
  intro d
  induction d using Nat.strongRecOn with
  | _ d ih =>
    intro k i j x hx hij hd hk hp
    obtain ⟨k, rfl⟩ := step_k hk
    simp only [slices_Reverse_int_int.l0]
    by_cases h : i < j
    · rw [if_pos (by omega), if_pos (by omega), if_pos (by omega), if_pos (by omega), if_pos (by omega), w64s (by omega), w64 (n := (j : Int) - 1) (by omega) (by omega), show (j : Int) - 1 = ((j - 1 : Nat) : Int) by omega]
      rw [Int.toNat_natCast, Int.toNat_natCast]
      refine ih (d - 2) (by omega) k (i + 1) (j - 1) _ (by simpa using hx) (by omega) (by omega) (by omega) ?_
      intro t ht
      rw [rd_set _ j t _ (by simp; omega), rd_set _ i t _ (by omega)]
      have hi := hp i (by omega)
      have hj := hp j (by omega)
      have hti := hp t ht
      rw [if_neg (by omega)] at hi hj
      by_cases e1 : j = t
      · subst e1
        rw [if_pos rfl, if_pos (by omega), hi, show o.length - 1 - j = i by omega]
      · rw [if_neg e1]
        by_cases e2 : i = t
        · subst e2
          rw [if_pos rfl, if_pos (by omega), hj, show o.length - 1 - i = j by omega]
        · rw [if_neg e2, hti]
          by_cases e3 : t < i ∨ j < t
          · rw [if_pos e3, if_pos (by omega)]
          · rw [if_neg e3, if_neg (by omega)]
    · rw [if_neg (by omega)]
      congr 1
      apply List.ext_getElem?
      intro t
      by_cases ht : t < o.length
      · rw [rd_get x t (by omega), hp t ht, List.getElem?_reverse ht, rd_get o (o.length - 1 - t) (by omega)]
        by_cases e3 : t < i ∨ j < t
        · rw [if_pos e3]
        · rw [if_neg e3, show o.length - 1 - t = t by omega]
      · rw [List.getElem?_eq_none (by omega), List.getElem?_eq_none (by simp; omega)]
theorem Reverse_f {k : Nat} {l : List Int} (hn : l.length ≤ 1000000000) (hk : l.length < k) : slices_Reverse_int_int.f k l = some l.reverse := by
  unfold slices_Reverse_int_int.f
  by_cases e : l.length = 0
  · obtain ⟨k, rfl⟩ := step_k hk
    simp only [slices_Reverse_int_int.l0]
    rw [w64 (by omega) (by omega), if_neg (by omega), List.eq_nil_of_length_eq_zero e]; rfl
  · rw [w64 (by omega) (by omega), show (l.length : Int) - 1 = ((l.length - 1 : Nat) : Int) by omega]
    refine Reverse_l0 l hn l.length k 0 (l.length - 1) l rfl (by omega) (by omega) hk ?_
    intro t ht
    rw [if_neg (by omega)]
theorem wayTo_l0 {l : List S54} (h : good l = true) : ∀ (k : Nat) (b : Int) (acc : List Int), -1 ≤ b → b < l.length → acc.length + b + 1 ≤ 30 → b + 40 < k → impl_wayTo.l0 k l b acc = some (way l b ++ acc.reverse) := by
  intro k
  induction k with
  | zero => intro b acc h0 _ _ hk; omega
  | succ k ih =>
    intro b acc h0 h1 hacc hk
    simp only [impl_wayTo.l0]
    have hg := good_len h
    by_cases e : b ≥ 0
    · have hp := good_par h (b := b) (by omega) h1
      rw [if_pos e, if_pos (by omega), if_pos (by omega), if_pos h1]
      show impl_wayTo.l0 k l (par l b) (acc ++ [b]) = _
      rw [ih (par l b) (acc ++ [b]) (by omega) (by omega) (by simp; omega) (by omega), way_pos h (by omega) h1]
      simp
    · rw [if_neg e, Reverse_f (by omega) (by omega), way_neg l (by omega)]
      rfl
theorem wayTo_f {l : List S54} (h : good l = true) {k : Nat} {b : Int} (h0 : 0 ≤ b) (h1 : b < l.length) (hk : 80 < k) : impl_wayTo.f k l b = some (way l b) := by
  unfold impl_wayTo.f
  have hg := good_len h
  rw [wayTo_l0 h k b [] (by omega) h1 (by simp; omega) (by omega)]
  simp
theorem eqIntS_l0 (l : List Int) (hn : l.length ≤ 100000000000000) (d : Nat) : ∀ (k i : Nat), i + d = l.length → d < k → laws_eqIntS.l0 k l l i = some true := by
  induction d with
  | zero =>
    intro k i hi hk
    obtain ⟨k, rfl⟩ := step_k hk
    simp only [laws_eqIntS.l0]; rw [if_neg (by omega)]
  | succ d ih =>
    intro k i hi hk
    obtain ⟨k, rfl⟩ := step_k hk
    simp only [laws_eqIntS.l0]
    rw [if_pos (by omega), if_pos (by omega), if_pos (by omega), if_true, w64s (by omega)]
    exact ih k (i + 1) (by omega) (by omega)
theorem eqIntS_f {k : Nat} {l : List Int} (hn : l.length ≤ 100000000000000) (hk : l.length < k) : laws_eqIntS.f k l l = some true := by
  unfold laws_eqIntS.f
  rw [if_pos rfl]
  exact eqIntS_l0 l hn l.length k 0 (by omega) hk
def marks (a : Int) (n : Nat) : List Int := (List.range n).map fun i : Nat => a + (i : Int)
theorem marks_len (a : Int) (n : Nat) : (marks a n).length = n := by simp [marks]
theorem marks_rd (a : Int) (n i : Nat) (h : i < n) : rd (marks a n) (i : Int) = a + i := by
  simp [marks, rd, List.getD_eq_getElem?_getD, h]
theorem markIntS_l0 (n : Nat) (hn : n ≤ 100000000000000) (a : Int) (h0 : 0 ≤ a) (ha : a ≤ 100000000000000) (d : Nat) : ∀ (k : Nat) (x : List Int) (i : Nat), x.length = n → i + d = n → d < k → (∀ j, j < i → x[j]? = some (a + (j : Int))) →
    laws_markIntS.l0 k x (a + i) i = some (a + n, marks a n) := by
  induction d with
  | zero =>
    intro k x i hx hi hk hp
    obtain ⟨k, rfl⟩ := step_k hk
    simp only [laws_markIntS.l0]; rw [if_neg (by omega)]
    congr 1
    refine Prod.ext (by simp; omega) ?_
    apply List.ext_getElem?
    intro j
    by_cases h : j < i
    · show x[j]? = _
      rw [hp j h]; simp [marks, show j < n by omega]
    · rw [List.getElem?_eq_none (by simp; omega), List.getElem?_eq_none (by rw [marks_len]; omega)]
  | succ d ih =>
    intro k x i hx hi hk hp
    obtain ⟨k, rfl⟩ := step_k hk
    simp only [laws_markIntS.l0]
    rw [if_pos (by omega), if_pos (by omega), w64s (by omega), w64 (n := a + (i : Int) + 1) (by omega) (by omega), show a + (i : Int) + 1 = a + ((i + 1 : Nat) : Int) by omega]
    refine ih k _ (i + 1) (by simpa using hx) (by omega) (by omega) ?_
    intro j hj
    rw [Int.toNat_natCast, List.getElem?_set]
    by_cases h : i = j
    · subst h
      rw [if_pos rfl, if_pos (by omega)]
    · rw [if_neg h]; exact hp j (by omega)
theorem markIntS_f {k : Nat} {l : List Int} {a : Int} (hn : l.length ≤ 100000000000000) (h0 : 0 ≤ a) (ha : a ≤ 100000000000000) (hk : l.length < k) : laws_markIntS.f k l a = some (a + l.length, marks a l.length) := by
  unfold laws_markIntS.f
  have := markIntS_l0 l.length hn a h0 ha l.length k l 0 rfl (by omega) hk (by intro j hj; omega)
  rw [show a + ((0 : Nat) : Int) = a by omega] at this
  exact this
theorem heldIntS_l0 (n : Nat) (hn : n ≤ 100000000000000) (a : Int) (h0 : 0 ≤ a) (ha : a ≤ 100000000000000) (d : Nat) : ∀ (k i : Nat), i + d = n → d < k → laws_heldIntS.l0 k (marks a n) (a + i) i = some (a + n) := by
  induction d with
  | zero =>
    intro k i hi hk
    obtain ⟨k, rfl⟩ := step_k hk
    simp only [laws_heldIntS.l0]; rw [if_neg (by rw [marks_len]; omega)]
    congr 1; omega
  | succ d ih =>
    intro k i hi hk
    obtain ⟨k, rfl⟩ := step_k hk
    simp only [laws_heldIntS.l0]
    rw [if_pos (by rw [marks_len]; omega), if_pos (by omega), if_pos (marks_rd a n i (by omega)), w64s (by omega), w64 (n := a + (i : Int) + 1) (by omega) (by omega), show a + (i : Int) + 1 = a + ((i + 1 : Nat) : Int) by omega]
    exact ih k (i + 1) (by omega) (by omega)
theorem heldIntS_f {k n : Nat} {a : Int} (hn : n ≤ 100000000000000) (h0 : 0 ≤ a) (ha : a ≤ 100000000000000) (hk : n < k) : laws_heldIntS.f k (marks a n) a = some (a + n) := by
  unfold laws_heldIntS.f
  have := heldIntS_l0 n hn a h0 ha n k 0 (by omega) hk
  rw [show a + ((0 : Nat) : Int) = a by omega] at this
  exact this
def marksB (a : Int) (n : Nat) : List S54 := (List.range n).map fun i : Nat => ⟨a + 2 * (i : Int), a + 2 * (i : Int) + 1⟩
theorem markBlockS_l0 (n : Nat) (hn : n ≤ 100000000000000) (a : Int) (h0 : 0 ≤ a) (ha : a ≤ 100000000000000) (d : Nat) : ∀ (k : Nat) (x : List S54) (i : Nat), x.length = n → i + d = n → d < k → (∀ j, j < i → x[j]? = some ⟨a + 2 * (j : Int), a + 2 * (j : Int) + 1⟩) →
    laws_markBlockS.l0 k x (a + 2 * (i : Int)) i = some (a + 2 * (n : Int), marksB a n) := by
  induction d with
  | zero =>
    intro k x i hx hi hk hp
    obtain ⟨k, rfl⟩ := step_k hk
    simp only [laws_markBlockS.l0]; rw [if_neg (by omega)]
    congr 1
    refine Prod.ext (by simp; omega) ?_
    apply List.ext_getElem?
    intro j
    by_cases h : j < i
    · show x[j]? = _
      rw [hp j h]; simp [marksB, show j < n by omega]
    · rw [List.getElem?_eq_none (by simp; omega), List.getElem?_eq_none (by simp [marksB]; omega)]
  | succ d ih =>
    intro k x i hx hi hk hp
    obtain ⟨k, rfl⟩ := step_k hk
    simp only [laws_markBlockS.l0, Option.bind_some]
    rw [if_pos (by omega), if_pos (by omega), w64s (by omega), w64 (n := a + 2 * (i : Int) + 1) (by omega) (by omega), w64 (n := a + 2 * (i : Int) + 1 + 1) (by omega) (by omega), show a + 2 * (i : Int) + 1 + 1 = a + 2 * ((i + 1 : Nat) : Int) by omega]
    refine ih k _ (i + 1) (by simpa using hx) (by omega) (by omega) ?_
    intro j hj
    rw [Int.toNat_natCast, List.getElem?_set]
    by_cases h : i = j
    · subst h
      rw [if_pos rfl, if_pos (by simp; omega)]
      have e : rd_T54 (x.set i ⟨a + 2 * (i : Int), (rd_T54 x (i : Int)).f1⟩) (i : Int) = ⟨a + 2 * (i : Int), (rd_T54 x (i : Int)).f1⟩ := by
        simp [rd_T54, List.getD_eq_getElem?_getD, List.getElem?_set, show i < x.length by omega]
      rw [e]
    · rw [if_neg h, List.getElem?_set, if_neg h]; exact hp j (by omega)
theorem markBlockS_f {k : Nat} {l : List S54} {a : Int} (hn : l.length ≤ 100000000000000) (h0 : 0 ≤ a) (ha : a ≤ 100000000000000) (hk : l.length < k) : laws_markBlockS.f k l a = some (a + 2 * (l.length : Int), marksB a l.length) := by
  unfold laws_markBlockS.f
  have := markBlockS_l0 l.length hn a h0 ha l.length k l 0 rfl (by omega) hk (by intro j hj; omega)
  rw [show a + 2 * ((0 : Nat) : Int) = a by omega] at this
  exact this
theorem rdS_get (l : List (List Int)) (i : Nat) (h : i < l.length) : l[i]? = some (rd_L3 l (i : Int)) := by
  simp [rd_L3, List.getD_eq_getElem?_getD, List.getElem?_eq_getElem h]
theorem rdS_mem (l : List (List Int)) (i : Nat) (h : i < l.length) : rd_L3 l (i : Int) ∈ l := List.mem_of_getElem? (rdS_get l i h)
theorem rdS_mid (pre : List (List Int)) (x : List Int) (post : List (List Int)) : rd_L3 (pre ++ x :: post) (pre.length : Int) = x := by
  simp [rd_L3, List.getD_eq_getElem?_getD]
theorem set_mid (pre : List (List Int)) (x y : List Int) (post : List (List Int)) : (pre ++ x :: post).set pre.length y = pre ++ y :: post := by
  induction pre with
  | nil => rfl
  | cons a pre ih => simp [ih]
theorem eqIntSS_l0 (l : List (List Int)) (R : Nat) (hl : ∀ x ∈ l, x.length ≤ R) (hR : R ≤ 100000) (hn : l.length ≤ 100000) (d : Nat) : ∀ (k i : Nat), i + d = l.length → d + R + 1 < k → laws_eqIntSS.l0 k l l i = some true := by
  induction d with
  | zero =>
    intro k i hi hk
    obtain ⟨k, rfl⟩ : ∃ m, k = m + 1 := ⟨k - 1, by omega⟩
    simp only [laws_eqIntSS.l0]; rw [if_neg (by omega)]
  | succ d ih =>
    intro k i hi hk
    obtain ⟨k, rfl⟩ : ∃ m, k = m + 1 := ⟨k - 1, by omega⟩
    have hx := hl _ (rdS_mem l i (by omega))
    simp only [laws_eqIntSS.l0]
    rw [if_pos (by omega), if_pos (by omega), if_pos (by omega), eqIntS_f (by omega) (by omega)]
    simp only [Option.bind_some, if_true]
    rw [w64s (by omega)]
    exact ih k (i + 1) (by omega) (by omega)
theorem eqIntSS_f {k R : Nat} {l : List (List Int)} (hl : ∀ x ∈ l, x.length ≤ R) (hR : R ≤ 100000) (hn : l.length ≤ 100000) (hk : l.length + R + 1 < k) : laws_eqIntSS.f k l l = some true := by
  unfold laws_eqIntSS.f
  rw [if_pos rfl]
  exact eqIntSS_l0 l R hl hR hn l.length k 0 (by omega) hk
def tot : List (List Int) → Nat
  | [] => 0
  | x :: xs => x.length + tot xs
def marksS : Int → List (List Int) → List (List Int)
  | _, [] => []
  | a, x :: xs => marks a x.length :: marksS (a + x.length) xs
theorem marksS_len (a : Int) (l : List (List Int)) : (marksS a l).length = l.length := by
  induction l generalizing a with
  | nil => rfl
  | cons x xs ih => simp [marksS, ih]
theorem markIntSS_l0 (R : Nat) (hR : R ≤ 100000) (suf : List (List Int)) : ∀ (pre : List (List Int)) (a : Int) (k : Nat), (∀ x ∈ suf, x.length ≤ R) → pre.length + suf.length ≤ 100000 → 0 ≤ a → a + tot suf ≤ 10000000000 → suf.length + R + 1 < k → laws_markIntSS.l0 k (pre ++ suf) a (pre.length : Int) = some (a + tot suf, pre ++ marksS a suf) := by
  induction suf with
  | nil =>
    intro pre a k _ hn h0 ha hk
    obtain ⟨k, rfl⟩ : ∃ m, k = m + 1 := ⟨k - 1, by omega⟩
    simp only [laws_markIntSS.l0]; rw [if_neg (by simp)]
    simp [tot, marksS]
  | cons x xs ih =>
    intro pre a k hl hn h0 ha hk
    obtain ⟨k, rfl⟩ : ∃ m, k = m + 1 := ⟨k - 1, by omega⟩
    simp only [List.length_cons] at hn hk
    have hx := hl x (by simp)
    simp only [tot] at ha ⊢
    simp only [laws_markIntSS.l0]
    rw [if_pos (by simp; omega), if_pos (by omega), rdS_mid, markIntS_f (by omega) h0 (by omega) (by omega)]
    simp only [Option.bind_some]
    have e : (pre ++ x :: xs).set ((pre.length : Int)).toNat (marks a x.length) = (pre ++ [marks a x.length]) ++ xs := by
      rw [Int.toNat_natCast, set_mid]; simp
    rw [e, w64s (by omega)]
    have := ih (pre ++ [marks a x.length]) (a + x.length) k (fun y hy => hl y (by simp [hy])) (by simp; omega) (by omega) (by omega) (by omega)
    rw [List.length_append, List.length_singleton] at this
    rw [this]
    simp only [marksS, List.append_assoc, List.singleton_append]
    congr 2
    omega
theorem markIntSS_f {k R : Nat} {l : List (List Int)} {a : Int} (hl : ∀ x ∈ l, x.length ≤ R) (hR : R ≤ 100000) (hn : l.length ≤ 100000) (h0 : 0 ≤ a) (ha : a + tot l ≤ 10000000000) (hk : l.length + R + 1 < k) : laws_markIntSS.f k l a = some (a + tot l, marksS a l) := by
  unfold laws_markIntSS.f
  have := markIntSS_l0 R hR l [] a k hl (by simpa using hn) h0 ha hk
  simpa using this
theorem heldIntSS_l0 (R : Nat) (hR : R ≤ 100000) (suf : List (List Int)) : ∀ (pre : List (List Int)) (a : Int) (k : Nat), (∀ x ∈ suf, x.length ≤ R) → pre.length + suf.length ≤ 100000 → 0 ≤ a → a + tot suf ≤ 10000000000 → suf.length + R + 1 < k → laws_heldIntSS.l0 k (pre ++ marksS a suf) a (pre.length : Int) = some (a + tot suf) := by
  induction suf with
  | nil =>
    intro pre a k _ hn h0 ha hk
    obtain ⟨k, rfl⟩ : ∃ m, k = m + 1 := ⟨k - 1, by omega⟩
    rw [show marksS a [] = [] from rfl]
    simp only [laws_heldIntSS.l0]; rw [if_neg (show ¬ ((pre.length : Int) < ((pre ++ ([] : List (List Int))).length : Int)) by simp)]
    simp [tot]
  | cons x xs ih =>
    intro pre a k hl hn h0 ha hk
    obtain ⟨k, rfl⟩ : ∃ m, k = m + 1 := ⟨k - 1, by omega⟩
    simp only [List.length_cons] at hn hk
    have hx := hl x (by simp)
    simp only [tot] at ha ⊢
    rw [show marksS a (x :: xs) = marks a x.length :: marksS (a + x.length) xs from rfl]
    simp only [laws_heldIntSS.l0]
    rw [if_pos (show (pre.length : Int) < ((pre ++ marks a x.length :: marksS (a + x.length) xs).length : Int) by simp <;> omega), if_pos (by omega), rdS_mid, heldIntS_f (by omega) h0 (by omega) (by omega)]
    simp only [Option.bind_some]
    rw [if_neg (by omega), w64s (by omega)]
    have := ih (pre ++ [marks a x.length]) (a + x.length) k (fun y hy => hl y (by simp [hy])) (by simp; omega) (by omega) (by omega) (by omega)
    rw [List.length_append, List.length_singleton, List.append_assoc, List.singleton_append] at this
    rw [this]
    congr 1
    omega
theorem heldIntSS_f {k R : Nat} {l : List (List Int)} {a : Int} (hl : ∀ x ∈ l, x.length ≤ R) (hR : R ≤ 100000) (hn : l.length ≤ 100000) (h0 : 0 ≤ a) (ha : a + tot l ≤ 10000000000) (hk : l.length + R + 1 < k) : laws_heldIntSS.f k (marksS a l) a = some (a + tot l) := by
  unfold laws_heldIntSS.f
  have := heldIntSS_l0 R hR l [] a k hl (by simpa using hn) h0 ha hk
  simpa using this
theorem tot_le (R : Nat) (l : List (List Int)) (hl : ∀ x ∈ l, x.length ≤ R) : tot l ≤ l.length * R := by
  induction l with
  | nil => simp [tot]
  | cons x xs ih =>
    have h1 := ih (fun y hy => hl y (by simp [hy]))
    have h2 := hl x (by simp)
    simp only [tot, List.length_cons, Nat.succ_mul]
    omega
/-- The blocks that lie 1, 2, 4, .. above a path's last one (n: a bound on how many). -/
def lrow (w : List Int) : Nat → Nat → List Int
  | 0, _ => []
  | n + 1, up => if up < w.length then rd w ((w.length : Int) - 1 - (up : Int)) :: lrow w n (up * 2) else []
theorem lrow_len (w : List Int) : ∀ (n up : Nat), (lrow w n up).length ≤ n := by
  intro n
  induction n with
  | zero => intro up; simp [lrow]
  | succ n ih =>
    intro up
    simp only [lrow]
    split
    · have := ih (up * 2); simp only [List.length_cons]; omega
    · simp
def leap (l : List S54) (b : Int) : List Int := lrow (way l b) (way l b).length 1
def leaps (l : List S54) (n : Nat) : List (List Int) := (List.range n).map fun b : Nat => leap l (b : Int)
theorem leaps_len (l : List S54) (n : Nat) : (leaps l n).length = n := by simp [leaps]
theorem leaps_succ (l : List S54) (n : Nat) : leaps l (n + 1) = leaps l n ++ [leap l (n : Int)] := by simp [leaps, List.range_succ]
def res (l : List S54) : List (List Int) × Bool := if good l then (leaps l l.length, true) else ([], false)
theorem leap_len {l : List S54} (h : good l = true) {b : Int} (h0 : 0 ≤ b) (h1 : b < l.length) : (leap l b).length ≤ 30 := by
  have hg := good_len h
  have h2 := way_len h b (by omega) h1
  have h3 := lrow_len (way l b) (way l b).length 1
  unfold leap
  omega
theorem res_small (l : List S54) : (res l).1.length ≤ 100 ∧ ∀ x ∈ (res l).1, x.length ≤ 100 := by
  unfold res
  split
  · rename_i h
    have hg := good_len h
    refine ⟨by show (leaps l l.length).length ≤ 100; rw [leaps_len]; omega, ?_⟩
    intro x hx
    obtain ⟨b, hb, rfl⟩ := List.mem_map.1 (show x ∈ leaps l l.length from hx)
    have := List.mem_range.1 hb
    have := leap_len h (b := (b : Int)) (by omega) (by omega)
    omega
  · simp
theorem spec_LeapsOf_l1 (l : List S54) (x4 : List (List Int)) (w : List Int) (hw : w.length ≤ 100) (h4 : x4.length ≤ 1000) (x13 x14 : Int) (K : Nat) (R : Option (List (List Int) × Bool)) :
    ∀ (n up : Nat) (acc : List Int) (k : Nat), 1 ≤ up → w.length ≤ up + n → up ≤ 1000000 → acc.length + n ≤ 1000 → K + n + 1 < k → (∀ k', K < k' → spec_LeapsOf.l0 k' l (x4 ++ [acc ++ lrow w n up]) x13 (wrap64 (x14 + 1)) = R) → spec_LeapsOf.l1 k l x4 w acc (up : Int) x13 x14 = R := by
  intro n
  induction n with
  | zero =>
    intro up acc k h1 hn hu ha hk hR
    obtain ⟨k, rfl⟩ : ∃ m, k = m + 1 := ⟨k - 1, by omega⟩
    simp only [spec_LeapsOf.l1]
    rw [if_neg (by omega), if_pos (by omega)]
    have := hR k (by omega)
    simpa [lrow] using this
  | succ n ih =>
    intro up acc k h1 hn hu ha hk hR
    obtain ⟨k, rfl⟩ : ∃ m, k = m + 1 := ⟨k - 1, by omega⟩
    simp only [spec_LeapsOf.l1]
    simp only [lrow] at hR
    by_cases h : up < w.length
    · rw [w64 (n := (w.length : Int) - 1) (by omega) (by omega), w64 (n := (w.length : Int) - 1 - (up : Int)) (by omega) (by omega), w64 (n := (up : Int) * 2) (by omega) (by omega), show (up : Int) * 2 = ((up * 2 : Nat) : Int) by omega]
      rw [if_pos (by omega), if_pos (by omega), if_pos (by omega), if_pos (by omega)]
      rw [if_pos h] at hR
      refine ih (up * 2) _ k (by omega) (by omega) (by omega) (by simp; omega) (by omega) ?_
      intro k' hk'
      have := hR k' hk'
      simpa using this
    · rw [if_neg (by omega), if_pos (by omega)]
      rw [if_neg h] at hR
      have := hR k (by omega)
      simpa using this
theorem spec_LeapsOf_l0 {l : List S54} (h : good l = true) (d : Nat) : ∀ (k i : Nat), i + d = l.length → d * 100 + 100 < k → spec_LeapsOf.l0 k l (leaps l i) (l.length : Int) i = some (leaps l l.length, true) := by
  have hg := good_len h
  induction d with
  | zero =>
    intro k i hi hk
    obtain ⟨k, rfl⟩ : ∃ m, k = m + 1 := ⟨k - 1, by omega⟩
    simp only [spec_LeapsOf.l0]
    rw [if_neg (by omega), show i = l.length by omega]
  | succ d ih =>
    intro k i hi hk
    obtain ⟨k, rfl⟩ : ∃ m, k = m + 1 := ⟨k - 1, by omega⟩
    simp only [spec_LeapsOf.l0]
    rw [if_pos (by omega), l3Way_f h k (i : Int) (by omega) (by omega) (by omega)]
    simp only [Option.bind_some]
    have hw := way_len h (i : Int) (by omega) (by omega)
    refine spec_LeapsOf_l1 l (leaps l i) (way l (i : Int)) (by omega) (by rw [leaps_len]; omega) _ _ (d * 100 + 100) _ (way l (i : Int)).length 1 [] k (by omega) (by omega) (by omega) (by simp; omega) (by omega) ?_
    intro k' hk'
    rw [w64s (by omega), List.nil_append, show lrow (way l (i : Int)) (way l (i : Int)).length 1 = leap l (i : Int) from rfl, ← leaps_succ]
    exact ih k' (i + 1) (by omega) hk'
theorem spec_LeapsOf_f {k : Nat} {l : List S54} (hn : l.length ≤ 100000000000000) (hk : l.length + 3000 < k) : spec_LeapsOf.f k l = some (res l) := by
  unfold spec_LeapsOf.f res
  simp (disch := omega) only [GoodTreeS_f, Option.bind_some]
  by_cases h1 : good l = true
  · have hg := good_len h1
    rw [if_pos h1, if_pos h1]
    exact spec_LeapsOf_l0 h1 l.length k 0 (by omega) (by omega)
  · rw [if_neg h1, if_neg h1]
theorem impl_LeapsOf_l1 (l : List S54) (pre post : List (List Int)) (w : List Int) (hw : w.length ≤ 100) (h4 : pre.length + post.length ≤ 1000) (x15 : Int) (K : Nat) (R : Option (List (List Int) × Bool)) :
    ∀ (n up : Nat) (acc : List Int) (k : Nat), 1 ≤ up → w.length ≤ up + n → up ≤ 1000000 → acc.length + n ≤ 1000 → K + n + 1 < k → (∀ k', K < k' → impl_LeapsOf.l0 k' l (pre ++ (acc ++ lrow w n up) :: post) x15 (wrap64 ((pre.length : Int) + 1)) = R) → impl_LeapsOf.l1 k l (pre ++ acc :: post) (pre.length : Int) w (up : Int) x15 (pre.length : Int) = R := by
  intro n
  induction n with
  | zero =>
    intro up acc k h1 hn hu ha hk hR
    obtain ⟨k, rfl⟩ : ∃ m, k = m + 1 := ⟨k - 1, by omega⟩
    simp only [impl_LeapsOf.l1]
    rw [if_neg (by omega)]
    have := hR k (by omega)
    simpa [lrow] using this
  | succ n ih =>
    intro up acc k h1 hn hu ha hk hR
    obtain ⟨k, rfl⟩ : ∃ m, k = m + 1 := ⟨k - 1, by omega⟩
    simp only [impl_LeapsOf.l1]
    simp only [lrow] at hR
    by_cases h : up < w.length
    · rw [w64 (n := (w.length : Int) - 1) (by omega) (by omega), w64 (n := (w.length : Int) - 1 - (up : Int)) (by omega) (by omega), w64 (n := (up : Int) * 2) (by omega) (by omega), show (up : Int) * 2 = ((up * 2 : Nat) : Int) by omega, rdS_mid]
      rw [if_pos (by omega), if_pos (by omega), if_pos (by simp; omega), if_pos (by omega), if_pos (by omega), if_pos (by omega)]
      rw [if_pos h] at hR
      have e : ∀ y : List Int, (pre ++ acc :: post).set ((pre.length : Int)).toNat y = pre ++ y :: post := by
        intro y
        rw [Int.toNat_natCast, set_mid]
      rw [e]
      refine ih (up * 2) _ k (by omega) (by omega) (by omega) (by simp; omega) (by omega) ?_
      intro k' hk'
      have := hR k' hk'
      simpa using this
    · rw [if_neg (by omega)]
      rw [if_neg h] at hR
      have := hR k (by omega)
      simpa using this
theorem impl_LeapsOf_l0 {l : List S54} (h : good l = true) (d : Nat) : ∀ (k i : Nat), i + d = l.length → d * 100 + 100 < k → impl_LeapsOf.l0 k l (leaps l i ++ List.replicate d []) (l.length : Int) i = some (leaps l l.length, true) := by
  have hg := good_len h
  induction d with
  | zero =>
    intro k i hi hk
    obtain ⟨k, rfl⟩ : ∃ m, k = m + 1 := ⟨k - 1, by omega⟩
    simp only [impl_LeapsOf.l0]
    rw [if_neg (by omega), show i = l.length by omega]; simp
  | succ d ih =>
    intro k i hi hk
    obtain ⟨k, rfl⟩ : ∃ m, k = m + 1 := ⟨k - 1, by omega⟩
    simp only [impl_LeapsOf.l0]
    rw [if_pos (by omega), wayTo_f h (by omega) (by omega) (by omega)]
    simp only [Option.bind_some]
    have hw := way_len h (i : Int) (by omega) (by omega)
    have key := impl_LeapsOf_l1 l (leaps l i) (List.replicate d []) (way l (i : Int)) (by omega) (by rw [leaps_len, List.length_replicate]; omega) (l.length : Int) (d * 100 + 100) (some (leaps l l.length, true)) (way l (i : Int)).length 1 [] k (by omega) (by omega) (by omega) (by simp; omega) (by omega) (by
      intro k' hk'
      rw [leaps_len, w64s (by omega), List.nil_append, show lrow (way l (i : Int)) (way l (i : Int)).length 1 = leap l (i : Int) from rfl]
      have := ih k' (i + 1) (by omega) hk'
      rw [leaps_succ, List.append_assoc, List.singleton_append] at this
      exact this)
    rw [leaps_len] at key
    rw [List.replicate_succ]
    exact key
theorem impl_LeapsOf_f {k : Nat} {l : List S54} (hn : l.length ≤ 100000000000000) (hk : l.length + 3000 < k) : impl_LeapsOf.f k l = some (res l) := by
  unfold impl_LeapsOf.f res
  simp (disch := omega) only [isTree_f, Option.bind_some]
  by_cases h1 : good l = true
  · have hg := good_len h1
    rw [if_pos h1, if_pos h1, if_pos (by omega), if_pos (by omega), Int.toNat_natCast]
    have := impl_LeapsOf_l0 h1 l.length k 0 (by omega) (by omega)
    simpa [leaps] using this
  · rw [if_neg h1, if_neg h1]
theorem FnExactLeapsOf : ∀ (l0 : List (S62)), l0.length * 16 ≤ 140737488351232 → (∀ v ∈ l0, (Lit.int .i64 v.f0).wf = true ∧ (Lit.int .i64 v.f1).wf = true) → ∃ k, laws_FnExactLeapsOf.f k l0 = some true := by
  intro l hl
  intros
  suffices h : ∀ k, 1058990 ≤ k → laws_FnExactLeapsOf.f k l = some true from ⟨_, h _ (Nat.le_refl _)⟩
  intro k hk
  have hm : (l.map cvB).length = l.length := by simp
  unfold laws_FnExactLeapsOf.f
  simp (disch := omega) only [szBlockS_f, Option.bind_some]
  by_cases h : (1048576 : Int) < l.length
  · rw [if_pos h, if_pos (by omega)]
  · rw [if_neg h, if_neg (by omega)]
    obtain ⟨m, hm1, hm2⟩ : ∃ m, k = m + 3 ∧ 1058980 ≤ m := ⟨k - 3, by omega, by omega⟩
    rw [hm1]
    obtain ⟨hr1, hr2⟩ := res_small (l.map cvB)
    have ht := tot_le 100 _ hr2
    have hE : ∀ k, 1058980 ≤ k → laws_eqIntSS.f k (res (l.map cvB)).1 (res (l.map cvB)).1 = some true := fun k hk => eqIntSS_f (R := 100) hr2 (by omega) (by omega) (by omega)
    have hM : ∀ k, 1058980 ≤ k → laws_markIntSS.f k (res (l.map cvB)).1 1 = some (1 + (tot (res (l.map cvB)).1 : Int), marksS 1 (res (l.map cvB)).1) := fun k hk => markIntSS_f (R := 100) hr2 (by omega) (by omega) (by omega) (by omega) (by omega)
    have hH : ∀ k, 1058980 ≤ k → laws_heldIntSS.f k (marksS 1 (res (l.map cvB)).1) 1 = some (1 + (tot (res (l.map cvB)).1 : Int)) := fun k hk => heldIntSS_f (R := 100) hr2 (by omega) (by omega) (by omega) (by omega) (by omega)
    have hneg : (1 + (tot (res (l.map cvB)).1 : Int) < 0) = False := eq_false (by omega)
    simp (disch := omega) only [toBlockS_f, spec_LeapsOf_f, impl_LeapsOf_f, eqBlockS_f, hE, markBlockS_f, Option.bind_some, bne_self_eq_false, laws_FnExactLeapsOf.j0, Bool.false_eq_true, if_false, if_true]
    rw [if_neg (by omega)]
    simp (disch := omega) only [toBlockS_f, impl_LeapsOf_f, hE, hM, hH, Option.bind_some, bne_self_eq_false, laws_FnExactLeapsOf.j1, laws_FnExactLeapsOf.j2, Bool.false_eq_true, if_false, if_true, hneg]

end Go.Proofs.Ytinhgkemalogiaa.Pure
