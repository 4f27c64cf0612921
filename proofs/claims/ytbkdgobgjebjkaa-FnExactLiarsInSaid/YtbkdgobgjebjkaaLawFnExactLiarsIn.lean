/- The row of the law FnExactLiarsIn: for every input it returns true, and its arguments read as before. No condition. -/
import Derived.Test.YtbkdgobgjebjkaaRows
import Derived.Test.YtbkdgobgjebjkaaPFnExactLiarsInx11
import Derived.Test.YtbkdgobgjebjkaaPureFnExactLiarsIn
import Derived.Test.YtbkdgobgjebjkaaOpenPoolB
import Derived.WalkKit
import Derived.ProofKit
import Derived.OpenShut
import Derived.ShutString
import Derived.ChangeOld
import Derived.Below
import Derived.SizedLaws
namespace Go.Proofs.Ytbkdgobgjebjkaa.fnExactLiarsIn
open Go.ChangeShapes Go.WideShapes Go.ChangeAt Go.RowKit Go.Proofs.YtbkdgobgjebjkaaW.PrintWords
set_option linter.unusedVariables false
theorem own : ownKnob Try.prog.godebug = none := by kernel_rfl
theorem laidOut : laidOutB Try.prog = true := by kernel_rfl
set_option maxRecDepth 100000 in
theorem lifted (os : Os) (started : os.Started) (H : Type) (enc : TypeId × Value → H) :
    ReturnsInHanded {} Try.checked os 4 .any (Rows.fnExactLiarsInSpec.pre6 enc Try.prog Try.f4 Rows.fnExactLiarsInRow.domain false) (Rows.fnExactLiarsInSpec.post enc Try.prog Try.f4 false true false false) := by
  refine returnsInHanded_of_change_sized (C := Try.checked) own started (by kernel_rfl) Try.func4
    (ChangeSpec.witness6 (enc := enc) (C := Try.checked) false ⟨#[], #[.slice none 0 0, .slice none 0 0, .agg #[.slice none 0 0]], []⟩ 8 (by kernel_rfl) (by kernel_rfl) (by kernel_rfl) (by kernel_rfl)) ?_
  intro W base args ds gs before hval0 hW hcnd hsz0 _
  have hsz : (DataW.weightsEach Try.prog (Try.f4.params.toList ++ Rows.fnExactLiarsInSpec.plain.varTypes Try.prog) (ds ++ gs)).all (· ≤ reachBytes) = true := hsz0
  have hval : ∀ (j : Nat) t v, Try.f4.params[j]? = some t → args[j]? = some v → Value.okWide Try.prog W .any base t v := hval0
  have hW' := hW
  obtain ⟨p, q, hA0, hV, rfl, hfz, hnd⟩ := hW
  have hA : DataW.TrodAll enc Try.prog W 0 (fun _ => true) true Try.f4.params.toList args.toList ds p := hA0
  rw [Try.params4] at hA hval hsz
  obtain ⟨v0, vs0, d0, ds0, p0, q0, hargs, rfl, rfl, h0, r0⟩ := trodAll_cons hA
  obtain ⟨v1, vs1, d1, ds1, p1, q1, rfl, rfl, rfl, h1, r1⟩ := trodAll_cons r0
  obtain ⟨v2, vs2, d2, ds2, p2, q2, rfl, rfl, rfl, h2, r2⟩ := trodAll_cons r1
  obtain ⟨rfl, rfl, rfl⟩ := trodAll_nil r2
  obtain rfl : args = #[v0, v1, v2] := by cases args; simp_all
  obtain ⟨rfl, rfl⟩ := trodVars_none hV
  obtain ⟨a0, len0, cap0, rfl⟩ := okWide_slice Try.underlying22 (hval 0 22 v0 rfl rfl)
  have k0 := h0
  have lt0 : ∀ x ∈ p0, x.block < W.heap.size := by obtain ⟨m, hm⟩ := k0; exact DataW.trod_lt m _ _ _ hm
  obtain ⟨l0, rfl, hr0, hc0, hb0, hw0⟩ := Open.arg_slice (Open.opens_slice Try.underlying22 (by kernel_rfl) (Open.opens_two (g := fun x : PFnExactLiarsIn.S74 => (x.f0, x.f1)) (fun a b => (⟨a, b⟩ : PFnExactLiarsIn.S74)) (fun _ _ => rfl) Try.underlying74 rfl (by kernel_rfl) (by kernel_rfl) (Open.opens_int (k := .i64) Try.underlying3 (by kernel_rfl)) (Open.opens_int (k := .i64) Try.underlying3 (by kernel_rfl)))) hsz (j := 0) (t := 22) rfl rfl h0
  replace hb0 : l0.length * 16 ≤ 140737488351232 := by (have e_ : Try.prog.bytesOf 74 = 16 := (by kernel_rfl)); rwa [e_] at hb0
  obtain ⟨a1, len1, cap1, rfl⟩ := okWide_slice Try.underlying23 (hval 1 23 v1 rfl rfl)
  have k1 := h1
  have lt1 : ∀ x ∈ p1, x.block < W.heap.size := by obtain ⟨m, hm⟩ := k1; exact DataW.trod_lt m _ _ _ hm
  obtain ⟨l1, rfl, hr1, hc1, hb1, hw1⟩ := Open.arg_slice (Open.opens_slice Try.underlying23 (by kernel_rfl) (Open.opens_int (k := .i64) Try.underlying3 (by kernel_rfl))) hsz (j := 1) (t := 23) rfl rfl h1
  replace hb1 : l1.length * 8 ≤ 140737488351232 := by (have e_ : Try.prog.bytesOf 3 = 8 := (by kernel_rfl)); rwa [e_] at hb1
  obtain ⟨cs2, rfl, _⟩ := okWide_struct Try.underlying26 (hval 2 26 v2 rfl rfl)
  have k2 := h2
  have lt2 : ∀ x ∈ p2, x.block < W.heap.size := by obtain ⟨m, hm⟩ := k2; exact DataW.trod_lt m _ _ _ hm
  obtain ⟨l2, a2, cap2, rfl, hr2, hc2, hb2, hw2⟩ := Open.arg_one (g := fun x : List (PFnExactLiarsIn.S93) => x) (Open.opens_one (g := fun x => x) (fun x => x) (fun _ => rfl) Try.underlying26 rfl (by kernel_rfl) (Open.opens_slice Try.underlying24 (by kernel_rfl) (Open.opens_three (g := fun x : PFnExactLiarsIn.S93 => (x.f0, x.f1, x.f2)) (fun a b c => (⟨a, b, c⟩ : PFnExactLiarsIn.S93)) (fun _ _ _ => rfl) Try.underlying93 rfl (by kernel_rfl) (by kernel_rfl) (by kernel_rfl) (Open.opens_int (k := .i64) Try.underlying3 (by kernel_rfl)) (Open.opens_int (k := .i64) Try.underlying3 (by kernel_rfl)) (Open.opens_int (k := .i64) Try.underlying3 (by kernel_rfl))))) hsz (j := 2) (t := 26) rfl rfl h2
  replace hb2 : l2.length * 24 ≤ 140737488351232 := by (have e_ : Try.prog.bytesOf 93 = 24 := (by kernel_rfl)); rwa [e_] at hb2
  clear hA0 hval0 hsz0 hsz
  obtain ⟨k, h⟩ := Pure.FnExactLiarsIn l0 l1 l2 hb0 hw0 hb1 hw1 hb2 hw2
  refine (PFnExactLiarsIn.laws_FnExactLiarsIn.calls k a0 cap0 l0 a1 cap1 l1 a2 cap2 l2 true W hr0 hc0 hr1 hc1 hr2 hc2 h).mono fun e W' ⟨he, bel0⟩ => ?_
  have bel : Below W.heap.size W W' := bel0
  subst he
  exact ⟨_, rfl, _, _, _, [], _, [], hW', trodAll_mk1 (shut_bool Try.underlying4 _), (trodAll_cons_mk (Below.trod laidOut (by kernel_rfl) (of_decide_eq_true (by kernel_rfl)) k0 bel lt0) (trodAll_cons_mk (Below.trod laidOut (by kernel_rfl) (of_decide_eq_true (by kernel_rfl)) k1 bel lt1) (trodAll_cons_mk (Below.trod laidOut (by kernel_rfl) (of_decide_eq_true (by kernel_rfl)) k2 bel lt2) trodAll_mk0))), rfl, bel.frame _, fun h => by cases h⟩
theorem over : Rows.fnExactLiarsInRow.holds Try.pinned (OpenSpec.ofChange Rows.fnExactLiarsInSpec) :=
  OpenClaim.holds_of_wide 4 Try.f4 rfl rfl rfl rfl rfl rfl rfl ⟨rfl, rfl, rfl, rfl, rfl⟩ rfl rfl rfl rfl rfl (by kernel_rfl) Try.func4 (by kernel_rfl)
    (of_decide_eq_true (by kernel_rfl)) (by unfold Func.isWrapper; first | (rw [if_pos (by decide +kernel)]; kernel_rfl) | (rw [if_neg (by decide +kernel)]; exact ⟨rfl, rfl⟩))
    (fun os started H enc _ => lifted os started H enc)
theorem proved : Rows.FnExactLiarsInSaid := over
#print axioms proved
end Go.Proofs.Ytbkdgobgjebjkaa.fnExactLiarsIn
namespace Go.Proofs.Ytbkdgobgjebjkaa
/-- The row, under a short name, for the claim. -/
theorem fnExactLiarsIn_holds : Rows.FnExactLiarsInSaid := fnExactLiarsIn.proved
end Go.Proofs.Ytbkdgobgjebjkaa
