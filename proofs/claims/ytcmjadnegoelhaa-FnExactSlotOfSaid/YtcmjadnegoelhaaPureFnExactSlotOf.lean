/- The program's SlotOf and the reference's return the same at every two integers. No condition. -/
import Derived.Test.YtcmjadnegoelhaaPFnExactSlotOfx0
import Derived.Test.YtcmjadnegoelhaaPFnExactSlotOfx1
namespace Go.Proofs.Ytcmjadnegoelhaa.Pure
open Go.RowKit Go.Proofs.Ytcmjadnegoelhaa.PFnExactSlotOf Go.Proofs.YtcmjadnegoelhaaW.PrintWords Go.Proofs.YtcmjadnegoelhaaW.PrintLast Go.Proofs.YtcmjadnegoelhaaW.PrintMore
set_option linter.unusedVariables false
set_option linter.unusedSimpArgs false
theorem w64 {n : Int} (h0 : -9223372036854775808 ≤ n) (h1 : n ≤ 9223372036854775807) : wrap64 n = n := by unfold wrap64; omega
theorem w64s {i : Nat} (h1 : i ≤ 1000000000000000) : wrap64 ((i : Int) + 1) = ((i + 1 : Nat) : Int) := by rw [w64 (by omega) (by omega)]; omega
theorem rd_eq (l : List Int) (i : Nat) : rd l (i : Int) = l.getD i 0 := by simp [rd]
theorem rd_get (l : List Int) (i : Nat) (h : i < l.length) : l[i]? = some (rd l (i : Int)) := by
  simp [rd, List.getD_eq_getElem?_getD, List.getElem?_eq_getElem h]
theorem rd_mem (l : List Int) (i : Nat) (h : i < l.length) : rd l (i : Int) ∈ l := List.mem_of_getElem? (rd_get l i h)
theorem step_k {k d : Nat} (h : d < k) : ∃ m, k = m + 1 := ⟨k - 1, by omega⟩

def inn (a b c : Int) : Bool := decide (b ≤ a ∧ a ≤ c)
theorem inn_t {a b c : Int} : inn a b c = true ↔ b ≤ a ∧ a ≤ c := by simp [inn]
theorem inn_f {a b c : Int} : inn a b c = false ↔ a < b ∨ c < a := by simp [inn]; omega
theorem l1In_f (a b c : Int) : spec_l1In.f a b c = some (inn a b c) := by
  unfold spec_l1In.f inn
  by_cases h : a ≥ b
  · rw [if_pos h]; simp [show b ≤ a from h]
  · rw [if_neg h]; simp [show ¬ b ≤ a from h]
theorem within_f (a b c : Int) : impl_within.f a b c = some (inn a b c) := by
  unfold impl_within.f inn
  by_cases h : a ≥ b
  · rw [if_pos h]; simp [show b ≤ a from h]
  · rw [if_neg h]; simp [show ¬ b ≤ a from h]
theorem FnExactSlotOf : ∀ (a0 : Int) (a1 : Int), (Lit.int .i64 a0).wf = true → (Lit.int .i64 a1).wf = true → laws_FnExactSlotOf.f a0 a1 = some true := by
  intro t d
  intros
  unfold laws_FnExactSlotOf.f spec_SlotOf.f impl_SlotOf.f spec_l2Delta.f impl_isDelta.f
  simp only [l1In_f, within_f, Option.bind_some]
  by_cases h : inn t 0 100000 = true
  · by_cases h2 : inn d 1 10 = true
    · have h3 := inn_t.1 h
      have h4 := inn_t.1 h2
      have e : wrap64 (4 * d) = 4 * d := w64 (by omega) (by omega)
      have p0 : 0 ≤ Int.tdiv t d := Int.tdiv_nonneg h3.1 (by omega)
      have p1 : Int.tdiv t d ≤ 100000 := by
        rw [Int.tdiv_eq_ediv_of_nonneg h3.1]
        have := Int.ediv_le_self d h3.1
        omega
      have e1 : wrap64 (Int.tdiv t d) = Int.tdiv t d := w64 (by omega) (by omega)
      have e2 : Int.tdiv (Int.tdiv t d) 4 = Int.tdiv t (4 * d) := by
        rw [Int.tdiv_eq_ediv_of_nonneg h3.1, Int.tdiv_eq_ediv_of_nonneg (by rw [Int.tdiv_eq_ediv_of_nonneg h3.1] at p0; exact p0), Int.tdiv_eq_ediv_of_nonneg h3.1, Int.ediv_ediv_of_nonneg (by omega), Int.mul_comm]
      rw [if_pos h, if_pos h2, e, if_neg (by omega), if_neg (by omega), e1, e2]
      simp [h, h2, show ¬ d = 0 by omega]
    · rw [if_pos h, if_neg h2]
      simp [h, h2]
  · rw [if_neg h]
    simp [h]

end Go.Proofs.Ytcmjadnegoelhaa.Pure
