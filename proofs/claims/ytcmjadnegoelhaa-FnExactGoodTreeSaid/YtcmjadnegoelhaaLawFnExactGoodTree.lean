/- The row of the law FnExactGoodTree: for every input it returns true, and its arguments read as before. No condition. -/
import Derived.Test.YtcmjadnegoelhaaRows
import Derived.Test.YtcmjadnegoelhaaPFnExactGoodTreex3
import Derived.Test.YtcmjadnegoelhaaPureFnExactGoodTree
import Derived.Test.YtcmjadnegoelhaaOpen
import Derived.WalkKit
import Derived.ProofKit
import Derived.OpenShut
import Derived.ShutString
import Derived.ChangeOld
import Derived.Below
import Derived.SizedLaws
namespace Go.Proofs.Ytcmjadnegoelhaa.fnExactGoodTree
open Go.ChangeShapes Go.WideShapes Go.ChangeAt Go.RowKit Go.Proofs.YtcmjadnegoelhaaW.PrintWords
set_option linter.unusedVariables false
theorem own : ownKnob Try.prog.godebug = none := by kernel_rfl
theorem laidOut : laidOutB Try.prog = true := by kernel_rfl
set_option maxRecDepth 100000 in
theorem lifted (os : Os) (started : os.Started) (H : Type) (enc : TypeId × Value → H) :
    ReturnsInHanded {} Try.checked os 10 .any (Rows.fnExactGoodTreeSpec.pre6 enc Try.prog Try.f10 Rows.fnExactGoodTreeRow.domain false) (Rows.fnExactGoodTreeSpec.post enc Try.prog Try.f10 false true false false) := by
  refine returnsInHanded_of_change_sized (C := Try.checked) own started (by kernel_rfl) Try.func10
    (ChangeSpec.witness6 (enc := enc) (C := Try.checked) false ⟨#[], #[.slice none 0 0], []⟩ 8 (by kernel_rfl) (by kernel_rfl) (by kernel_rfl) (by kernel_rfl)) ?_
  intro W base args ds gs before hval0 hW hcnd hsz0 _
  have hsz : (DataW.weightsEach Try.prog (Try.f10.params.toList ++ Rows.fnExactGoodTreeSpec.plain.varTypes Try.prog) (ds ++ gs)).all (· ≤ reachBytes) = true := hsz0
  have hval : ∀ (j : Nat) t v, Try.f10.params[j]? = some t → args[j]? = some v → Value.okWide Try.prog W .any base t v := hval0
  have hW' := hW
  obtain ⟨p, q, hA0, hV, rfl, hfz, hnd⟩ := hW
  have hA : DataW.TrodAll enc Try.prog W 0 (fun _ => true) true Try.f10.params.toList args.toList ds p := hA0
  rw [Try.params10] at hA hval hsz
  obtain ⟨v0, vs0, d0, ds0, p0, q0, hargs, rfl, rfl, h0, r0⟩ := trodAll_cons hA
  obtain ⟨rfl, rfl, rfl⟩ := trodAll_nil r0
  obtain rfl : args = #[v0] := by cases args; simp_all
  obtain ⟨rfl, rfl⟩ := trodVars_none hV
  obtain ⟨a0, len0, cap0, rfl⟩ := okWide_slice Try.underlying45 (hval 0 45 v0 rfl rfl)
  have k0 := h0
  have lt0 : ∀ x ∈ p0, x.block < W.heap.size := by obtain ⟨m, hm⟩ := k0; exact DataW.trod_lt m _ _ _ hm
  obtain ⟨l0, rfl, hr0, hc0, hb0, hw0⟩ := Open.arg_slice (Open.opens_slice Try.underlying45 (by kernel_rfl) (Open.opens_two (g := fun x : PFnExactGoodTree.S70 => (x.f0, x.f1)) (fun a b => (⟨a, b⟩ : PFnExactGoodTree.S70)) (fun _ _ => rfl) Try.underlying70 rfl (by kernel_rfl) (by kernel_rfl) (Open.opens_int (k := .i64) Try.underlying3 (by kernel_rfl)) (Open.opens_int (k := .i64) Try.underlying3 (by kernel_rfl)))) hsz (j := 0) (t := 45) rfl rfl h0
  replace hb0 : l0.length * 16 ≤ 140737488351232 := by (have e_ : Try.prog.bytesOf 70 = 16 := (by kernel_rfl)); rwa [e_] at hb0
  clear hA0 hval0 hsz0 hsz
  obtain ⟨k, h⟩ := Pure.FnExactGoodTree l0 hb0 hw0
  refine (PFnExactGoodTree.laws_FnExactGoodTree.calls k a0 cap0 l0 true W hr0 hc0 h).mono fun e W' ⟨he, bel0⟩ => ?_
  have bel : Below W.heap.size W W' := bel0
  subst he
  exact ⟨_, rfl, _, _, _, [], _, [], hW', trodAll_mk1 (shut_bool Try.underlying4 _), (trodAll_cons_mk (Below.trod laidOut (by kernel_rfl) (of_decide_eq_true (by kernel_rfl)) k0 bel lt0) trodAll_mk0), rfl, bel.frame _, fun h => by cases h⟩
theorem over : Rows.fnExactGoodTreeRow.holds Try.pinned (OpenSpec.ofChange Rows.fnExactGoodTreeSpec) :=
  OpenClaim.holds_of_wide 10 Try.f10 rfl rfl rfl rfl rfl rfl rfl ⟨rfl, rfl, rfl, rfl, rfl⟩ rfl rfl rfl rfl rfl (by kernel_rfl) Try.func10 (by kernel_rfl)
    (of_decide_eq_true (by kernel_rfl)) (by unfold Func.isWrapper; first | (rw [if_pos (by decide +kernel)]; kernel_rfl) | (rw [if_neg (by decide +kernel)]; exact ⟨rfl, rfl⟩))
    (fun os started H enc _ => lifted os started H enc)
theorem proved : Rows.FnExactGoodTreeSaid := over
#print axioms proved
end Go.Proofs.Ytcmjadnegoelhaa.fnExactGoodTree
namespace Go.Proofs.Ytcmjadnegoelhaa
/-- The row, under a short name, for the claim. -/
theorem fnExactGoodTree_holds : Rows.FnExactGoodTreeSaid := fnExactGoodTree.proved
end Go.Proofs.Ytcmjadnegoelhaa
