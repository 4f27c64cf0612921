/- The row of the law FnAbove: for every input it returns true, and its arguments read as before. No condition. -/
import Derived.Test.YtdjdkabblfccjaaRows
import Derived.Test.YtdjdkabblfccjaaPFnAbovex7
import Derived.Test.YtdjdkabblfccjaaPureFnAbove
import Derived.Test.YtdjdkabblfccjaaOpen
import Derived.WalkKit
import Derived.ProofKit
import Derived.OpenShut
import Derived.ShutString
import Derived.ChangeOld
import Derived.Below
import Derived.SizedLaws
namespace Go.Proofs.Ytdjdkabblfccjaa.fnAbove
open Go.ChangeShapes Go.WideShapes Go.ChangeAt Go.RowKit Go.Proofs.YtdjdkabblfccjaaW.PrintWords
set_option linter.unusedVariables false
theorem own : ownKnob Try.prog.godebug = none := by kernel_rfl
theorem laidOut : laidOutB Try.prog = true := by kernel_rfl
set_option maxRecDepth 100000 in
theorem lifted (os : Os) (started : os.Started) (H : Type) (enc : TypeId × Value → H) :
    ReturnsInHanded {} Try.checked os 9 .any (Rows.fnAboveSpec.pre6 enc Try.prog Try.f9 Rows.fnAboveRow.domain false) (Rows.fnAboveSpec.post enc Try.prog Try.f9 false true false false) := by
  refine returnsInHanded_of_change_sized (C := Try.checked) own started (by kernel_rfl) Try.func9
    (ChangeSpec.witness6 (enc := enc) (C := Try.checked) false ⟨#[], #[.slice none 0 0, .slice none 0 0], []⟩ 8 (by kernel_rfl) (by kernel_rfl) (by kernel_rfl) (by kernel_rfl)) ?_
  intro W base args ds gs before hval0 hW hcnd hsz0 _
  have hsz : (DataW.weightsEach Try.prog (Try.f9.params.toList ++ Rows.fnAboveSpec.plain.varTypes Try.prog) (ds ++ gs)).all (· ≤ reachBytes) = true := hsz0
  have hval : ∀ (j : Nat) t v, Try.f9.params[j]? = some t → args[j]? = some v → Value.okWide Try.prog W .any base t v := hval0
  have hW' := hW
  obtain ⟨p, q, hA0, hV, rfl, hfz, hnd⟩ := hW
  have hA : DataW.TrodAll enc Try.prog W 0 (fun _ => true) true Try.f9.params.toList args.toList ds p := hA0
  rw [Try.params9] at hA hval hsz
  obtain ⟨v0, vs0, d0, ds0, p0, q0, hargs, rfl, rfl, h0, r0⟩ := trodAll_cons hA
  obtain ⟨v1, vs1, d1, ds1, p1, q1, rfl, rfl, rfl, h1, r1⟩ := trodAll_cons r0
  obtain ⟨rfl, rfl, rfl⟩ := trodAll_nil r1
  obtain rfl : args = #[v0, v1] := by cases args; simp_all
  obtain ⟨rfl, rfl⟩ := trodVars_none hV
  obtain ⟨a0, len0, cap0, rfl⟩ := okWide_slice Try.underlying43 (hval 0 43 v0 rfl rfl)
  have k0 := h0
  have lt0 : ∀ x ∈ p0, x.block < W.heap.size := by obtain ⟨m, hm⟩ := k0; exact DataW.trod_lt m _ _ _ hm
  obtain ⟨l0, rfl, hr0, hc0, hb0, hw0⟩ := Open.arg_slice (Open.opens_slice Try.underlying43 (by kernel_rfl) (Open.opens_int (k := .u8) Try.underlying5 (by kernel_rfl))) hsz (j := 0) (t := 43) rfl rfl h0
  replace hb0 : l0.length * 1 ≤ 140737488351232 := by (have e_ : Try.prog.bytesOf 5 = 1 := (by kernel_rfl)); rwa [e_] at hb0
  obtain ⟨a1, len1, cap1, rfl⟩ := okWide_slice Try.underlying43 (hval 1 43 v1 rfl rfl)
  have k1 := h1
  have lt1 : ∀ x ∈ p1, x.block < W.heap.size := by obtain ⟨m, hm⟩ := k1; exact DataW.trod_lt m _ _ _ hm
  obtain ⟨l1, rfl, hr1, hc1, hb1, hw1⟩ := Open.arg_slice (Open.opens_slice Try.underlying43 (by kernel_rfl) (Open.opens_int (k := .u8) Try.underlying5 (by kernel_rfl))) hsz (j := 1) (t := 43) rfl rfl h1
  replace hb1 : l1.length * 1 ≤ 140737488351232 := by (have e_ : Try.prog.bytesOf 5 = 1 := (by kernel_rfl)); rwa [e_] at hb1
  clear hA0 hval0 hsz0 hsz
  obtain ⟨k, h⟩ := Pure.FnAbove l0 l1 hb0 hw0 hb1 hw1
  refine (PFnAbove.laws_FnAbove.calls k a0 cap0 l0 a1 cap1 l1 true W hr0 hc0 hr1 hc1 h).mono fun e W' ⟨he, bel0⟩ => ?_
  have bel : Below W.heap.size W W' := bel0
  subst he
  exact ⟨_, rfl, _, _, _, [], _, [], hW', trodAll_mk1 (shut_bool Try.underlying4 _), (trodAll_cons_mk (Below.trod laidOut (by kernel_rfl) (of_decide_eq_true (by kernel_rfl)) k0 bel lt0) (trodAll_cons_mk (Below.trod laidOut (by kernel_rfl) (of_decide_eq_true (by kernel_rfl)) k1 bel lt1) trodAll_mk0)), rfl, bel.frame _, fun h => by cases h⟩
theorem over : Rows.fnAboveRow.holds Try.pinned (OpenSpec.ofChange Rows.fnAboveSpec) :=
  OpenClaim.holds_of_wide 9 Try.f9 rfl rfl rfl rfl rfl rfl rfl ⟨rfl, rfl, rfl, rfl, rfl⟩ rfl rfl rfl rfl rfl (by kernel_rfl) Try.func9 (by kernel_rfl)
    (of_decide_eq_true (by kernel_rfl)) (by unfold Func.isWrapper; first | (rw [if_pos (by decide +kernel)]; kernel_rfl) | (rw [if_neg (by decide +kernel)]; exact ⟨rfl, rfl⟩))
    (fun os started H enc _ => lifted os started H enc)
theorem proved : Rows.FnAboveSaid := over
#print axioms proved
end Go.Proofs.Ytdjdkabblfccjaa.fnAbove
namespace Go.Proofs.Ytdjdkabblfccjaa
/-- The row, under a short name, for the claim. -/
theorem fnAbove_holds : Rows.FnAboveSaid := fnAbove.proved
end Go.Proofs.Ytdjdkabblfccjaa
