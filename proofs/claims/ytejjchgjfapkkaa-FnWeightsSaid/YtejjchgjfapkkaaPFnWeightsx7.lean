-- Written for this claim by a program of this session, out of Lean's own print of the program. Nothing in it is trusted: Lean checks it.
import Derived.Test.YtejjchgjfapkkaaPFnWeightsx0
import Derived.Test.YtejjchgjfapkkaaPFnWeightsx1
import Derived.Test.YtejjchgjfapkkaaPFnWeightsx2
import Derived.Test.YtejjchgjfapkkaaPFnWeightsx3
import Derived.Test.YtejjchgjfapkkaaPFnWeightsx4
import Derived.Test.YtejjchgjfapkkaaPFnWeightsx5
import Derived.Test.YtejjchgjfapkkaaPFnWeightsx6
namespace Go.Proofs.Ytejjchgjfapkkaa.PFnWeights
open Go.RowKit Go.Proofs.YtejjchgjfapkkaaW.PrintWords Go.Proofs.YtejjchgjfapkkaaW.PrintLast Go.Proofs.YtejjchgjfapkkaaW.PrintMore
attribute [local go_sem] max2_int min2_int max_two min_two max_three min_three max_four min_four   -- for this text's walks alone
set_option linter.unusedVariables false
set_option linter.unusedSimpArgs false

/-! ### laws_FnWeights: function 13 -/
mutual
def laws_FnWeights.j0 : Nat → List Int → List Int → List Int → Bool → Bool → Bool → Bool → Option (Bool)
  | 0, _, _, _, _, _, _, _ => none
  | k + 1, x1, x5, x6, x7, x8, x12, x99 => if x99 = true then (some false) else (if x8 = true then ((laws_numberOf.f k x1).bind fun t308 => (if 0 ≤ (IntKind.u64.wrap ((x5.length : Int))) then (if (shl .i64 1 (IntKind.u64.wrap ((x5.length : Int)))) = 0 then (none) else ((impl_OfMask.f k (Int.tmod t308 (shl .i64 1 (IntKind.u64.wrap ((x5.length : Int)))))).bind fun bt309 => ((impl_IsGreat.f k x5 bt309.1).bind fun bt313 => ((impl_InBoth.f k x6 bt309.1).bind fun bt315 => ((impl_WeightOf.f k x5 bt315.1).bind fun bt319 => (if x12 = true then (if bt309.2 = true then (if bt313.2 = true then (if bt315.2 = true then (if bt319.2 = true then (if x7 = true then (if bt313.1 = true then ((laws_sumOf.f k x5).bind fun t321 => (if (wrap64 (3 * bt319.1)) < t321 then (some false) else (laws_FnWeights.j1 k x1))) else (laws_FnWeights.j1 k x1)) else (laws_FnWeights.j1 k x1)) else (some false)) else (some false)) else (some false)) else (some false)) else (some false))))))) else (none))) else (laws_FnWeights.j1 k x1))
def laws_FnWeights.j1 : Nat → List Int → Option (Bool)
  | 0, _ => none
  | k + 1, x1 => (spec_DrawLeastShared.f k x1).bind fun t322 => ((impl_LeastShared.f k t322).bind fun bt325 => ((spec_LeastShared.f k t322).bind fun bt327 => (if (bt325.2 != bt327.2) = true then (laws_FnWeights.j2 k x1 true) else (if bt325.1 = bt327.1 then (if bt325.2 = true then ((laws_sumOf.f k t322).bind fun t329 => (laws_FnWeights.j2 k x1 (decide ((wrap64 (3 * bt325.1)) < t329)))) else (laws_FnWeights.j2 k x1 false)) else (laws_FnWeights.j2 k x1 true)))))
def laws_FnWeights.j2 : Nat → List Int → Bool → Option (Bool)
  | 0, _, _ => none
  | k + 1, x1, x190 => if x190 = true then (some false) else ((spec_DrawOfMask.f x1).bind fun t330 => ((impl_OfMask.f k t330).bind fun bt331 => ((spec_OfMask.f k t330).bind fun bt335 => ((spec_DrawMaskOf.f k x1).bind fun t339 => ((impl_MaskOf.f k t339).bind fun bt342 => ((spec_MaskOf.f k t339).bind fun bt344 => (if (bt331.2 != bt335.2) = true then (laws_FnWeights.j3 k t330 bt331.1 bt331.2 true) else ((laws_sameInts.f k bt331.1 bt335.1).bind fun t346 => (if t346 = true then (if (bt342.2 != bt344.2) = true then (laws_FnWeights.j3 k t330 bt331.1 bt331.2 true) else (laws_FnWeights.j3 k t330 bt331.1 bt331.2 (bt342.1 != bt344.1))) else (laws_FnWeights.j3 k t330 bt331.1 bt331.2 true))))))))))
def laws_FnWeights.j3 : Nat → Int → List Int → Bool → Bool → Option (Bool)
  | 0, _, _, _, _ => none
  | k + 1, x28, x29, x30, x233 => if x233 = true then (some false) else (if x30 = true then ((impl_MaskOf.f k x29).bind fun bt347 => (if bt347.2 = true then (some (bt347.1 == x28)) else (some false))) else (some true))
end
def laws_FnWeights.f (k : Nat) (l0 : List Int) (l1 : List Int) : Option (Bool) := if (wrap64 ((l0.length : Int) + (l1.length : Int))) > 1048576 then (some true) else ((spec_DrawIsGreat.f k l0).bind fun bt292 => ((impl_IsGreat.f k bt292.1 bt292.2).bind fun bt298 => ((spec_IsGreat.f k bt292.1 bt292.2).bind fun bt300 => ((impl_WeightOf.f k bt292.1 bt292.2).bind fun bt302 => ((spec_WeightOf.f k bt292.1 bt292.2).bind fun bt304 => (if (bt298.2 != bt300.2) = true then (laws_FnWeights.j0 k l1 bt292.1 bt292.2 bt298.1 bt298.2 bt302.2 true) else (if (bt298.1 != bt300.1) = true then (laws_FnWeights.j0 k l1 bt292.1 bt292.2 bt298.1 bt298.2 bt302.2 true) else (if (bt302.2 != bt304.2) = true then (laws_FnWeights.j0 k l1 bt292.1 bt292.2 bt298.1 bt298.2 bt302.2 true) else (if bt302.1 = bt304.1 then ((impl_GoodStakes.f k bt292.1).bind fun t306 => ((spec_GoodStakes.f k bt292.1).bind fun t307 => (laws_FnWeights.j0 k l1 bt292.1 bt292.2 bt298.1 bt298.2 bt302.2 (t306 != t307)))) else (laws_FnWeights.j0 k l1 bt292.1 bt292.2 bt298.1 bt298.2 bt302.2 true))))))))))
theorem laws_FnWeights.mono_l : ∀ k, (∀ y0 y1 y2 y3 y4 y5 y6, LeO (laws_FnWeights.j0 k y0 y1 y2 y3 y4 y5 y6) (laws_FnWeights.j0 (k + 1) y0 y1 y2 y3 y4 y5 y6)) ∧ (∀ y0, LeO (laws_FnWeights.j1 k y0) (laws_FnWeights.j1 (k + 1) y0)) ∧ (∀ y0 y1, LeO (laws_FnWeights.j2 k y0 y1) (laws_FnWeights.j2 (k + 1) y0 y1)) ∧ (∀ y0 y1 y2 y3, LeO (laws_FnWeights.j3 k y0 y1 y2 y3) (laws_FnWeights.j3 (k + 1) y0 y1 y2 y3))
  | 0 => ⟨fun _ _ _ _ _ _ _ r h => by simp [laws_FnWeights.j0] at h, fun _ r h => by simp [laws_FnWeights.j1] at h, fun _ _ r h => by simp [laws_FnWeights.j2] at h, fun _ _ _ _ r h => by simp [laws_FnWeights.j3] at h⟩
  | k + 1 => by
    obtain ⟨ih0, ih1, ih2, ih3⟩ := laws_FnWeights.mono_l k
    refine ⟨?_, ?_, ?_, ?_⟩
    · intro y0 y1 y2 y3 y4 y5 y6
      unfold laws_FnWeights.j0
      repeat' first
      | (with_reducible exact ih0 _ _ _ _ _ _ _)
      | (with_reducible exact ih1 _)
      | (with_reducible exact ih2 _ _)
      | (with_reducible exact ih3 _ _ _ _)
      | (with_reducible exact impl_GoodStakes.mono _ _)
      | (with_reducible exact impl_InBoth.mono _ _ _)
      | (with_reducible exact impl_IsGreat.mono _ _ _)
      | (with_reducible exact impl_LeastShared.mono _ _)
      | (with_reducible exact impl_MaskOf.mono _ _)
      | (with_reducible exact impl_OfMask.mono _ _)
      | (with_reducible exact impl_WeightOf.mono _ _ _)
      | (with_reducible exact laws_numberOf.mono _ _)
      | (with_reducible exact laws_sameInts.mono _ _ _)
      | (with_reducible exact laws_sumOf.mono _ _)
      | (with_reducible exact spec_DrawIsGreat.mono _ _)
      | (with_reducible exact spec_DrawLeastShared.mono _ _)
      | (with_reducible exact spec_DrawMaskOf.mono _ _)
      | (with_reducible exact spec_GoodStakes.mono _ _)
      | (with_reducible exact spec_IsGreat.mono _ _ _)
      | (with_reducible exact spec_LeastShared.mono _ _)
      | (with_reducible exact spec_MaskOf.mono _ _)
      | (with_reducible exact spec_OfMask.mono _ _)
      | (with_reducible exact spec_WeightOf.mono _ _ _)
      | (with_reducible exact LeO.refl _)
      | (with_reducible exact LeO.none _)
      | (with_reducible refine LeO.ite ?_ ?_)
      | (with_reducible refine LeO.bind ?_ (fun _ => ?_))
      | exact ih0 _ _ _ _ _ _ _
      | exact ih1 _
      | exact ih2 _ _
      | exact ih3 _ _ _ _
      | exact impl_GoodStakes.mono _ _
      | exact impl_InBoth.mono _ _ _
      | exact impl_IsGreat.mono _ _ _
      | exact impl_LeastShared.mono _ _
      | exact impl_MaskOf.mono _ _
      | exact impl_OfMask.mono _ _
      | exact impl_WeightOf.mono _ _ _
      | exact laws_numberOf.mono _ _
      | exact laws_sameInts.mono _ _ _
      | exact laws_sumOf.mono _ _
      | exact spec_DrawIsGreat.mono _ _
      | exact spec_DrawLeastShared.mono _ _
      | exact spec_DrawMaskOf.mono _ _
      | exact spec_GoodStakes.mono _ _
      | exact spec_IsGreat.mono _ _ _
      | exact spec_LeastShared.mono _ _
      | exact spec_MaskOf.mono _ _
      | exact spec_OfMask.mono _ _
      | exact spec_WeightOf.mono _ _ _
      | exact LeO.none _
      | refine LeO.ite ?_ ?_
      | refine LeO.bind ?_ (fun _ => ?_)
    · intro y0
      unfold laws_FnWeights.j1
      repeat' first
      | (with_reducible exact ih0 _ _ _ _ _ _ _)
      | (with_reducible exact ih1 _)
      | (with_reducible exact ih2 _ _)
      | (with_reducible exact ih3 _ _ _ _)
      | (with_reducible exact impl_GoodStakes.mono _ _)
      | (with_reducible exact impl_InBoth.mono _ _ _)
      | (with_reducible exact impl_IsGreat.mono _ _ _)
      | (with_reducible exact impl_LeastShared.mono _ _)
      | (with_reducible exact impl_MaskOf.mono _ _)
      | (with_reducible exact impl_OfMask.mono _ _)
      | (with_reducible exact impl_WeightOf.mono _ _ _)
      | (with_reducible exact laws_numberOf.mono _ _)
      | (with_reducible exact laws_sameInts.mono _ _ _)
      | (with_reducible exact laws_sumOf.mono _ _)
      | (with_reducible exact spec_DrawIsGreat.mono _ _)
      | (with_reducible exact spec_DrawLeastShared.mono _ _)
      | (with_reducible exact spec_DrawMaskOf.mono _ _)
      | (with_reducible exact spec_GoodStakes.mono _ _)
      | (with_reducible exact spec_IsGreat.mono _ _ _)
      | (with_reducible exact spec_LeastShared.mono _ _)
      | (with_reducible exact spec_MaskOf.mono _ _)
      | (with_reducible exact spec_OfMask.mono _ _)
      | (with_reducible exact spec_WeightOf.mono _ _ _)
      | (with_reducible exact LeO.refl _)
      | (with_reducible exact LeO.none _)
      | (with_reducible refine LeO.ite ?_ ?_)
      | (with_reducible refine LeO.bind ?_ (fun _ => ?_))
      | exact ih0 _ _ _ _ _ _ _
      | exact ih1 _
      | exact ih2 _ _
      | exact ih3 _ _ _ _
      | exact impl_GoodStakes.mono _ _
      | exact impl_InBoth.mono _ _ _
      | exact impl_IsGreat.mono _ _ _
      | exact impl_LeastShared.mono _ _
      | exact impl_MaskOf.mono _ _
      | exact impl_OfMask.mono _ _
      | exact impl_WeightOf.mono _ _ _
      | exact laws_numberOf.mono _ _
      | exact laws_sameInts.mono _ _ _
      | exact laws_sumOf.mono _ _
      | exact spec_DrawIsGreat.mono _ _
      | exact spec_DrawLeastShared.mono _ _
      | exact spec_DrawMaskOf.mono _ _
      | exact spec_GoodStakes.mono _ _
      | exact spec_IsGreat.mono _ _ _
      | exact spec_LeastShared.mono _ _
      | exact spec_MaskOf.mono _ _
      | exact spec_OfMask.mono _ _
      | exact spec_WeightOf.mono _ _ _
      | exact LeO.none _
      | refine LeO.ite ?_ ?_
      | refine LeO.bind ?_ (fun _ => ?_)
    · intro y0 y1
      unfold laws_FnWeights.j2
      repeat' first
      | (with_reducible exact ih0 _ _ _ _ _ _ _)
      | (with_reducible exact ih1 _)
      | (with_reducible exact ih2 _ _)
      | (with_reducible exact ih3 _ _ _ _)
      | (with_reducible exact impl_GoodStakes.mono _ _)
      | (with_reducible exact impl_InBoth.mono _ _ _)
      | (with_reducible exact impl_IsGreat.mono _ _ _)
      | (with_reducible exact impl_LeastShared.mono _ _)
      | (with_reducible exact impl_MaskOf.mono _ _)
      | (with_reducible exact impl_OfMask.mono _ _)
      | (with_reducible exact impl_WeightOf.mono _ _ _)
      | (with_reducible exact laws_numberOf.mono _ _)
      | (with_reducible exact laws_sameInts.mono _ _ _)
      | (with_reducible exact laws_sumOf.mono _ _)
      | (with_reducible exact spec_DrawIsGreat.mono _ _)
      | (with_reducible exact spec_DrawLeastShared.mono _ _)
      | (with_reducible exact spec_DrawMaskOf.mono _ _)
      | (with_reducible exact spec_GoodStakes.mono _ _)
      | (with_reducible exact spec_IsGreat.mono _ _ _)
      | (with_reducible exact spec_LeastShared.mono _ _)
      | (with_reducible exact spec_MaskOf.mono _ _)
      | (with_reducible exact spec_OfMask.mono _ _)
      | (with_reducible exact spec_WeightOf.mono _ _ _)
      | (with_reducible exact LeO.refl _)
      | (with_reducible exact LeO.none _)
      | (with_reducible refine LeO.ite ?_ ?_)
      | (with_reducible refine LeO.bind ?_ (fun _ => ?_))
      | exact ih0 _ _ _ _ _ _ _
      | exact ih1 _
      | exact ih2 _ _
      | exact ih3 _ _ _ _
      | exact impl_GoodStakes.mono _ _
      | exact impl_InBoth.mono _ _ _
      | exact impl_IsGreat.mono _ _ _
      | exact impl_LeastShared.mono _ _
      | exact impl_MaskOf.mono _ _
      | exact impl_OfMask.mono _ _
      | exact impl_WeightOf.mono _ _ _
      | exact laws_numberOf.mono _ _
      | exact laws_sameInts.mono _ _ _
      | exact laws_sumOf.mono _ _
      | exact spec_DrawIsGreat.mono _ _
      | exact spec_DrawLeastShared.mono _ _
      | exact spec_DrawMaskOf.mono _ _
      | exact spec_GoodStakes.mono _ _
      | exact spec_IsGreat.mono _ _ _
      | exact spec_LeastShared.mono _ _
      | exact spec_MaskOf.mono _ _
      | exact spec_OfMask.mono _ _
      | exact spec_WeightOf.mono _ _ _
      | exact LeO.none _
      | refine LeO.ite ?_ ?_
      | refine LeO.bind ?_ (fun _ => ?_)
    · intro y0 y1 y2 y3
      unfold laws_FnWeights.j3
      repeat' first
      | (with_reducible exact ih0 _ _ _ _ _ _ _)
      | (with_reducible exact ih1 _)
      | (with_reducible exact ih2 _ _)
      | (with_reducible exact ih3 _ _ _ _)
      | (with_reducible exact impl_GoodStakes.mono _ _)
      | (with_reducible exact impl_InBoth.mono _ _ _)
      | (with_reducible exact impl_IsGreat.mono _ _ _)
      | (with_reducible exact impl_LeastShared.mono _ _)
      | (with_reducible exact impl_MaskOf.mono _ _)
      | (with_reducible exact impl_OfMask.mono _ _)
      | (with_reducible exact impl_WeightOf.mono _ _ _)
      | (with_reducible exact laws_numberOf.mono _ _)
      | (with_reducible exact laws_sameInts.mono _ _ _)
      | (with_reducible exact laws_sumOf.mono _ _)
      | (with_reducible exact spec_DrawIsGreat.mono _ _)
      | (with_reducible exact spec_DrawLeastShared.mono _ _)
      | (with_reducible exact spec_DrawMaskOf.mono _ _)
      | (with_reducible exact spec_GoodStakes.mono _ _)
      | (with_reducible exact spec_IsGreat.mono _ _ _)
      | (with_reducible exact spec_LeastShared.mono _ _)
      | (with_reducible exact spec_MaskOf.mono _ _)
      | (with_reducible exact spec_OfMask.mono _ _)
      | (with_reducible exact spec_WeightOf.mono _ _ _)
      | (with_reducible exact LeO.refl _)
      | (with_reducible exact LeO.none _)
      | (with_reducible refine LeO.ite ?_ ?_)
      | (with_reducible refine LeO.bind ?_ (fun _ => ?_))
      | exact ih0 _ _ _ _ _ _ _
      | exact ih1 _
      | exact ih2 _ _
      | exact ih3 _ _ _ _
      | exact impl_GoodStakes.mono _ _
      | exact impl_InBoth.mono _ _ _
      | exact impl_IsGreat.mono _ _ _
      | exact impl_LeastShared.mono _ _
      | exact impl_MaskOf.mono _ _
      | exact impl_OfMask.mono _ _
      | exact impl_WeightOf.mono _ _ _
      | exact laws_numberOf.mono _ _
      | exact laws_sameInts.mono _ _ _
      | exact laws_sumOf.mono _ _
      | exact spec_DrawIsGreat.mono _ _
      | exact spec_DrawLeastShared.mono _ _
      | exact spec_DrawMaskOf.mono _ _
      | exact spec_GoodStakes.mono _ _
      | exact spec_IsGreat.mono _ _ _
      | exact spec_LeastShared.mono _ _
      | exact spec_MaskOf.mono _ _
      | exact spec_OfMask.mono _ _
      | exact spec_WeightOf.mono _ _ _
      | exact LeO.none _
      | refine LeO.ite ?_ ?_
      | refine LeO.bind ?_ (fun _ => ?_)
theorem laws_FnWeights.mono : ∀ a0 a1 k, LeO (laws_FnWeights.f k a0 a1) (laws_FnWeights.f (k + 1) a0 a1) := by
  intro a0 a1 k
  obtain ⟨ih0, ih1, ih2, ih3⟩ := laws_FnWeights.mono_l k
  unfold laws_FnWeights.f
  repeat' first
      | (with_reducible exact ih0 _ _ _ _ _ _ _)
      | (with_reducible exact ih1 _)
      | (with_reducible exact ih2 _ _)
      | (with_reducible exact ih3 _ _ _ _)
      | (with_reducible exact impl_GoodStakes.mono _ _)
      | (with_reducible exact impl_InBoth.mono _ _ _)
      | (with_reducible exact impl_IsGreat.mono _ _ _)
      | (with_reducible exact impl_LeastShared.mono _ _)
      | (with_reducible exact impl_MaskOf.mono _ _)
      | (with_reducible exact impl_OfMask.mono _ _)
      | (with_reducible exact impl_WeightOf.mono _ _ _)
      | (with_reducible exact laws_numberOf.mono _ _)
      | (with_reducible exact laws_sameInts.mono _ _ _)
      | (with_reducible exact laws_sumOf.mono _ _)
      | (with_reducible exact spec_DrawIsGreat.mono _ _)
      | (with_reducible exact spec_DrawLeastShared.mono _ _)
      | (with_reducible exact spec_DrawMaskOf.mono _ _)
      | (with_reducible exact spec_GoodStakes.mono _ _)
      | (with_reducible exact spec_IsGreat.mono _ _ _)
      | (with_reducible exact spec_LeastShared.mono _ _)
      | (with_reducible exact spec_MaskOf.mono _ _)
      | (with_reducible exact spec_OfMask.mono _ _)
      | (with_reducible exact spec_WeightOf.mono _ _ _)
      | (with_reducible exact LeO.refl _)
      | (with_reducible exact LeO.none _)
      | (with_reducible refine LeO.ite ?_ ?_)
      | (with_reducible refine LeO.bind ?_ (fun _ => ?_))
      | exact ih0 _ _ _ _ _ _ _
      | exact ih1 _
      | exact ih2 _ _
      | exact ih3 _ _ _ _
      | exact impl_GoodStakes.mono _ _
      | exact impl_InBoth.mono _ _ _
      | exact impl_IsGreat.mono _ _ _
      | exact impl_LeastShared.mono _ _
      | exact impl_MaskOf.mono _ _
      | exact impl_OfMask.mono _ _
      | exact impl_WeightOf.mono _ _ _
      | exact laws_numberOf.mono _ _
      | exact laws_sameInts.mono _ _ _
      | exact laws_sumOf.mono _ _
      | exact spec_DrawIsGreat.mono _ _
      | exact spec_DrawLeastShared.mono _ _
      | exact spec_DrawMaskOf.mono _ _
      | exact spec_GoodStakes.mono _ _
      | exact spec_IsGreat.mono _ _ _
      | exact spec_LeastShared.mono _ _
      | exact spec_MaskOf.mono _ _
      | exact spec_OfMask.mono _ _
      | exact spec_WeightOf.mono _ _ _
      | exact LeO.none _
      | refine LeO.ite ?_ ?_
      | refine LeO.bind ?_ (fun _ => ?_)
set_option maxHeartbeats 8000000 in
set_option maxRecDepth 100000 in
theorem laws_FnWeights.calls (k : Nat) (A0 : Option Addr) (c0 : Nat) (l0 : List Int) (A1 : Option Addr) (c1 : Nat) (l1 : List Int) (r : Bool) (w : World) (hr0 : Kd.C (Kd.int .u8) w A0 l0.length l0) (hc0 : l0.length ≤ c0) (hr1 : Kd.C (Kd.int .u8) w A1 l1.length l1) (hc1 : l1.length ≤ c1) (h : laws_FnWeights.f k l0 l1 = some r) :
    Calls Try.prog 13 #[.slice A0 l0.length c0, .slice A1 l1.length c1] w fun e w' => e = .returned (.bool r) ∧ Below w.heap.size w w' := by
  have HR0 := Aside0.mk hr0
  have HC0 := Aside0.mk hc0
  clear hr0 hc0
  have HR1 := Aside0.mk hr1
  have HC1 := Aside0.mk hc1
  clear hr1 hc1
  have HB := Aside0.mk (Below.refl w.heap.size w)
  have H : (if (wrap64 ((l0.length : Int) + (l1.length : Int))) > 1048576 then (some true) else ((spec_DrawIsGreat.f k l0).bind fun bt292 => ((impl_IsGreat.f k bt292.1 bt292.2).bind fun bt298 => ((spec_IsGreat.f k bt292.1 bt292.2).bind fun bt300 => ((impl_WeightOf.f k bt292.1 bt292.2).bind fun bt302 => ((spec_WeightOf.f k bt292.1 bt292.2).bind fun bt304 => (if (bt298.2 != bt300.2) = true then (laws_FnWeights.j0 k l1 bt292.1 bt292.2 bt298.1 bt298.2 bt302.2 true) else (if (bt298.1 != bt300.1) = true then (laws_FnWeights.j0 k l1 bt292.1 bt292.2 bt298.1 bt298.2 bt302.2 true) else (if (bt302.2 != bt304.2) = true then (laws_FnWeights.j0 k l1 bt292.1 bt292.2 bt298.1 bt298.2 bt302.2 true) else (if bt302.1 = bt304.1 then ((impl_GoodStakes.f k bt292.1).bind fun t306 => ((spec_GoodStakes.f k bt292.1).bind fun t307 => (laws_FnWeights.j0 k l1 bt292.1 bt292.2 bt298.1 bt298.2 bt302.2 (t306 != t307)))) else (laws_FnWeights.j0 k l1 bt292.1 bt292.2 bt298.1 bt298.2 bt302.2 true))))))))))) = some r := h
  clear h
  by_cases c3 : (wrap64 ((l0.length : Int) + (l1.length : Int))) > 1048576
  · as_aux_lemma =>
    rw [if_pos c3] at H
    have c3b0 : decide (1048576 < (wrap64 ((l0.length : Int) + (l1.length : Int)))) = true := decide_eq_true c3
    clear c3
    obtain rfl := Option.some.inj H
    go_enter Try.func13, Try.ntmps13
    go_wp2
    go_ret
    exact ⟨by first | rfl | (simp [errW_none, errW_some] <;> rfl) | (simp [*, errW_none, errW_some] <;> rfl), by repeat (first | (with_reducible first | exact HB.out | apply below_alloc | apply pw_below_drewN | apply below_drew1) | exact HB.out)⟩
  · as_aux_lemma =>
    rw [if_neg c3] at H
    have c3b0 : decide (1048576 < (wrap64 ((l0.length : Int) + (l1.length : Int)))) = false := decide_eq_false c3
    clear c3
    replace H := Option.bind_eq_some_iff.mp H
    obtain ⟨⟨t292, t293⟩, A40, H⟩ := H
    replace H : ((impl_IsGreat.f k t292 t293).bind fun bt298 => ((spec_IsGreat.f k t292 t293).bind fun bt300 => ((impl_WeightOf.f k t292 t293).bind fun bt302 => ((spec_WeightOf.f k t292 t293).bind fun bt304 => (if (bt298.2 != bt300.2) = true then (laws_FnWeights.j0 k l1 t292 t293 bt298.1 bt298.2 bt302.2 true) else (if (bt298.1 != bt300.1) = true then (laws_FnWeights.j0 k l1 t292 t293 bt298.1 bt298.2 bt302.2 true) else (if (bt302.2 != bt304.2) = true then (laws_FnWeights.j0 k l1 t292 t293 bt298.1 bt298.2 bt302.2 true) else (if bt302.1 = bt304.1 then ((impl_GoodStakes.f k t292).bind fun t306 => ((spec_GoodStakes.f k t292).bind fun t307 => (laws_FnWeights.j0 k l1 t292 t293 bt298.1 bt298.2 bt302.2 (t306 != t307)))) else (laws_FnWeights.j0 k l1 t292 t293 bt298.1 bt298.2 bt302.2 true))))))))) = some r := H
    have A4 := Aside0.mk A40
    clear A40
    replace H := Option.bind_eq_some_iff.mp H
    obtain ⟨⟨t298, t299⟩, A50, H⟩ := H
    replace H : ((spec_IsGreat.f k t292 t293).bind fun bt300 => ((impl_WeightOf.f k t292 t293).bind fun bt302 => ((spec_WeightOf.f k t292 t293).bind fun bt304 => (if (t299 != bt300.2) = true then (laws_FnWeights.j0 k l1 t292 t293 t298 t299 bt302.2 true) else (if (t298 != bt300.1) = true then (laws_FnWeights.j0 k l1 t292 t293 t298 t299 bt302.2 true) else (if (bt302.2 != bt304.2) = true then (laws_FnWeights.j0 k l1 t292 t293 t298 t299 bt302.2 true) else (if bt302.1 = bt304.1 then ((impl_GoodStakes.f k t292).bind fun t306 => ((spec_GoodStakes.f k t292).bind fun t307 => (laws_FnWeights.j0 k l1 t292 t293 t298 t299 bt302.2 (t306 != t307)))) else (laws_FnWeights.j0 k l1 t292 t293 t298 t299 bt302.2 true)))))))) = some r := H
    have A5 := Aside0.mk A50
    clear A50
    replace H := Option.bind_eq_some_iff.mp H
    obtain ⟨⟨t300, t301⟩, A60, H⟩ := H
    replace H : ((impl_WeightOf.f k t292 t293).bind fun bt302 => ((spec_WeightOf.f k t292 t293).bind fun bt304 => (if (t299 != t301) = true then (laws_FnWeights.j0 k l1 t292 t293 t298 t299 bt302.2 true) else (if (t298 != t300) = true then (laws_FnWeights.j0 k l1 t292 t293 t298 t299 bt302.2 true) else (if (bt302.2 != bt304.2) = true then (laws_FnWeights.j0 k l1 t292 t293 t298 t299 bt302.2 true) else (if bt302.1 = bt304.1 then ((impl_GoodStakes.f k t292).bind fun t306 => ((spec_GoodStakes.f k t292).bind fun t307 => (laws_FnWeights.j0 k l1 t292 t293 t298 t299 bt302.2 (t306 != t307)))) else (laws_FnWeights.j0 k l1 t292 t293 t298 t299 bt302.2 true))))))) = some r := H
    have A6 := Aside0.mk A60
    clear A60
    replace H := Option.bind_eq_some_iff.mp H
    obtain ⟨⟨t302, t303⟩, A70, H⟩ := H
    replace H : ((spec_WeightOf.f k t292 t293).bind fun bt304 => (if (t299 != t301) = true then (laws_FnWeights.j0 k l1 t292 t293 t298 t299 t303 true) else (if (t298 != t300) = true then (laws_FnWeights.j0 k l1 t292 t293 t298 t299 t303 true) else (if (t303 != bt304.2) = true then (laws_FnWeights.j0 k l1 t292 t293 t298 t299 t303 true) else (if t302 = bt304.1 then ((impl_GoodStakes.f k t292).bind fun t306 => ((spec_GoodStakes.f k t292).bind fun t307 => (laws_FnWeights.j0 k l1 t292 t293 t298 t299 t303 (t306 != t307)))) else (laws_FnWeights.j0 k l1 t292 t293 t298 t299 t303 true)))))) = some r := H
    have A7 := Aside0.mk A70
    clear A70
    replace H := Option.bind_eq_some_iff.mp H
    obtain ⟨⟨t304, t305⟩, A80, H⟩ := H
    replace H : (if (t299 != t301) = true then (laws_FnWeights.j0 k l1 t292 t293 t298 t299 t303 true) else (if (t298 != t300) = true then (laws_FnWeights.j0 k l1 t292 t293 t298 t299 t303 true) else (if (t303 != t305) = true then (laws_FnWeights.j0 k l1 t292 t293 t298 t299 t303 true) else (if t302 = t304 then ((impl_GoodStakes.f k t292).bind fun t306 => ((spec_GoodStakes.f k t292).bind fun t307 => (laws_FnWeights.j0 k l1 t292 t293 t298 t299 t303 (t306 != t307)))) else (laws_FnWeights.j0 k l1 t292 t293 t298 t299 t303 true))))) = some r := H
    have A8 := Aside0.mk A80
    clear A80
    have HC9 := Aside0.mk H
    clear H
    go_enter Try.func13, Try.ntmps13
    go_upto_region 8 with (first | ((with_reducible refine gate_callee (f := 47) rfl ?_); refine goesL_ (some 48) rfl rfl Try.func47 (by kernel_rfl) rfl #[.slice A0 l0.length c0] rfl (by (try simp only [List.map_toArray, List.map_cons, List.map_nil]); first | done | rfl | (simp only [List.length_drop, List.length_take]; rfl)) ?_; (with_reducible refine (spec_DrawIsGreat.calls k _ _ l0 t292 t293 _ ?side1 ?side2 A4.out).mono ?_); (case side1 => repeat (first | exact HR0.out | (with_reducible refine Kd.C_alloc ?_ _) | (with_reducible refine Kd.C_drewN ?_ _) | (with_reducible refine Kd.C_drew ?_))); (case side2 => exact HC0.out); rintro e w10 ⟨v294, v296, rfl, ho0, ho1, hb⟩; refine ⟨_, rfl, ?_⟩; have n0_ := Aside0.mk (Kd.R_lower ho0 (below_size (by repeat (first | (with_reducible first | exact HB.out | apply below_alloc | apply pw_below_drewN | apply below_drew1) | exact HB.out)))); have n1_ := Aside0.mk (Kd.R_lower ho1 (below_size (by repeat (first | (with_reducible first | exact HB.out | apply below_alloc | apply pw_below_drewN | apply below_drew1) | exact HB.out)))); have n2_ := Aside0.mk (below_step (by repeat (first | (with_reducible first | exact HB.out | apply below_alloc | apply pw_below_drewN | apply below_drew1) | exact HB.out)) hb); clear HB; have HO295 := n0_; have HO297 := n1_; have HB := n2_; clear n0_ n1_ n2_; (try clear hb); (try clear hb2); (try clear hk); (try clear hi); (try clear ho0); (try clear ho1); obtain ⟨Ao11, co11, eo11⟩ := Kd.R_slice HO295.out; subst eo11; obtain ⟨Ao12, co12, eo12⟩ := Kd.R_slice HO297.out; subst eo12) | ((with_reducible refine gate_callee (f := 26) rfl ?_); refine goesL_ (some 54) rfl rfl Try.func26 (by kernel_rfl) rfl #[.slice Ao11 t292.length co11, .slice Ao12 t293.length co12] rfl (by (try simp only [List.map_toArray, List.map_cons, List.map_nil]); first | done | rfl | (simp only [List.length_drop, List.length_take]; rfl)) ?_; (with_reducible refine (impl_IsGreat.calls k _ _ t292 _ _ t293 t298 t299 _ ?side1 ?side2 ?side3 ?side4 A5.out).mono ?_); (case side1 => repeat (first | exact (Kd.R_reads' HO295.out).2.2 | (with_reducible refine Kd.C_alloc ?_ _) | (with_reducible refine Kd.C_drewN ?_ _) | (with_reducible refine Kd.C_drew ?_))); (case side2 => exact (Kd.R_reads' HO295.out).2.1); (case side3 => repeat (first | exact (Kd.R_reads' HO297.out).2.2 | (with_reducible refine Kd.C_alloc ?_ _) | (with_reducible refine Kd.C_drewN ?_ _) | (with_reducible refine Kd.C_drew ?_))); (case side4 => exact (Kd.R_reads' HO297.out).2.1); rintro e w' ⟨rfl, ⟨nd, rfl⟩⟩; refine ⟨_, rfl, ?_⟩) | ((with_reducible refine gate_callee (f := 25) rfl ?_); refine goesL_ (some 60) rfl rfl Try.func25 (by kernel_rfl) rfl #[.slice Ao11 t292.length co11, .slice Ao12 t293.length co12] rfl (by (try simp only [List.map_toArray, List.map_cons, List.map_nil]); first | done | rfl | (simp only [List.length_drop, List.length_take]; rfl)) ?_; (with_reducible refine (spec_IsGreat.calls k _ _ t292 _ _ t293 t300 t301 _ ?side1 ?side2 ?side3 ?side4 A6.out).mono ?_); (case side1 => repeat (first | exact (Kd.R_reads' HO295.out).2.2 | (with_reducible refine Kd.C_alloc ?_ _) | (with_reducible refine Kd.C_drewN ?_ _) | (with_reducible refine Kd.C_drew ?_))); (case side2 => exact (Kd.R_reads' HO295.out).2.1); (case side3 => repeat (first | exact (Kd.R_reads' HO297.out).2.2 | (with_reducible refine Kd.C_alloc ?_ _) | (with_reducible refine Kd.C_drewN ?_ _) | (with_reducible refine Kd.C_drew ?_))); (case side4 => exact (Kd.R_reads' HO297.out).2.1); rintro e w' ⟨rfl, ⟨nd, rfl⟩⟩; refine ⟨_, rfl, ?_⟩) | ((with_reducible refine gate_callee (f := 22) rfl ?_); refine goesL_ (some 66) rfl rfl Try.func22 (by kernel_rfl) rfl #[.slice Ao11 t292.length co11, .slice Ao12 t293.length co12] rfl (by (try simp only [List.map_toArray, List.map_cons, List.map_nil]); first | done | rfl | (simp only [List.length_drop, List.length_take]; rfl)) ?_; (with_reducible refine (impl_WeightOf.calls k _ _ t292 _ _ t293 t302 t303 _ ?side1 ?side2 ?side3 ?side4 A7.out).mono ?_); (case side1 => repeat (first | exact (Kd.R_reads' HO295.out).2.2 | (with_reducible refine Kd.C_alloc ?_ _) | (with_reducible refine Kd.C_drewN ?_ _) | (with_reducible refine Kd.C_drew ?_))); (case side2 => exact (Kd.R_reads' HO295.out).2.1); (case side3 => repeat (first | exact (Kd.R_reads' HO297.out).2.2 | (with_reducible refine Kd.C_alloc ?_ _) | (with_reducible refine Kd.C_drewN ?_ _) | (with_reducible refine Kd.C_drew ?_))); (case side4 => exact (Kd.R_reads' HO297.out).2.1); rintro e w' ⟨rfl, ⟨nd, rfl⟩⟩; refine ⟨_, rfl, ?_⟩) | ((with_reducible refine gate_callee (f := 21) rfl ?_); refine goesL_ (some 72) rfl rfl Try.func21 (by kernel_rfl) rfl #[.slice Ao11 t292.length co11, .slice Ao12 t293.length co12] rfl (by (try simp only [List.map_toArray, List.map_cons, List.map_nil]); first | done | rfl | (simp only [List.length_drop, List.length_take]; rfl)) ?_; (with_reducible refine (spec_WeightOf.calls k _ _ t292 _ _ t293 t304 t305 _ ?side1 ?side2 ?side3 ?side4 A8.out).mono ?_); (case side1 => repeat (first | exact (Kd.R_reads' HO295.out).2.2 | (with_reducible refine Kd.C_alloc ?_ _) | (with_reducible refine Kd.C_drewN ?_ _) | (with_reducible refine Kd.C_drew ?_))); (case side2 => exact (Kd.R_reads' HO295.out).2.1); (case side3 => repeat (first | exact (Kd.R_reads' HO297.out).2.2 | (with_reducible refine Kd.C_alloc ?_ _) | (with_reducible refine Kd.C_drewN ?_ _) | (with_reducible refine Kd.C_drew ?_))); (case side4 => exact (Kd.R_reads' HO297.out).2.1); rintro e w' ⟨rfl, ⟨nd, rfl⟩⟩; refine ⟨_, rfl, ?_⟩))
    (try simp only [Act.put, List.setIfInBounds_toArray, List.set_cons_zero, List.set_cons_succ])
    go_cut [99] (fun v99 wc => ∃ (kq : Nat) (x99_8 : Bool), v99 = .bool x99_8 ∧ Aside0 (laws_FnWeights.j0 kq l1 t292 t293 t298 t299 t303 x99_8 = some r) ∧ Aside0 (kq ≤ k) ∧ Aside0 (Kd.R (Kd.int .i64) 3 wc w.heap.size (fun k_ => some k_ ≠ ((.slice Ao12 t293.length co12) : Value).ownBlock) (.slice Ao11 t292.length co11) t292) ∧ Aside0 (Kd.R (Kd.int .i64) 3 wc w.heap.size (fun k_ => some k_ ≠ ((.slice Ao11 t292.length co11) : Value).ownBlock) (.slice Ao12 t293.length co12) t293) ∧ Aside0 (Below w.heap.size w wc))
    case first =>
      have H := HC9.out
      clear HC9
      by_cases c13 : (t299 != t301) = true
      · as_aux_lemma =>
        rw [if_pos c13] at H
        have c13b0 : (t299 != t301) = true := c13
        (try (have c13b1 : decide (t299 = t301) = false := by simpa using c13))
        (try (have c13b2 : (t299 == t301) = false := by simpa using c13))
        (try (have c13b3 : ¬ (t299 = t301) := by simpa using c13))
        clear c13
        (first | rw [c13b0] | (simp only [i64_w, i32_w]; rw [c13b0]) | skip)
        have H' := Aside0.mk H
        clear H
        go_wp2
        go_meet
        case rel => exact ⟨_, (true), (by first | rfl | (simp; done) | (simp [*]; done)), H', ⟨by first | omega | exact Nat.le_refl _⟩, ⟨by (with_reducible repeat (first | apply Kd.R_alloc | apply Kd.R_drewN | apply Kd.R_drew)); exact HO295.out⟩, ⟨by (with_reducible repeat (first | apply Kd.R_alloc | apply Kd.R_drewN | apply Kd.R_drew)); exact HO297.out⟩, ⟨by repeat (first | (with_reducible first | exact HB.out | apply below_alloc | apply pw_below_drewN | apply below_drew1) | exact HB.out)⟩⟩
      · as_aux_lemma =>
        rw [if_neg c13] at H
        have c13b0 : (t299 != t301) = false := by simpa using c13
        (try (have c13b1 : decide (t299 = t301) = true := by simpa using c13))
        (try (have c13b2 : (t299 == t301) = true := by simpa using c13))
        clear c13
        (first | rw [c13b0] | (simp only [i64_w, i32_w]; rw [c13b0]) | skip)
        by_cases c14 : (t298 != t300) = true
        · as_aux_lemma =>
          rw [if_pos c14] at H
          have c14b0 : (t298 != t300) = true := c14
          (try (have c14b1 : decide (t298 = t300) = false := by simpa using c14))
          (try (have c14b2 : (t298 == t300) = false := by simpa using c14))
          (try (have c14b3 : ¬ (t298 = t300) := by simpa using c14))
          clear c14
          have H' := Aside0.mk H
          clear H
          go_wp2
          go_meet
          case rel => exact ⟨_, (true), (by first | rfl | (simp; done) | (simp [*]; done)), H', ⟨by first | omega | exact Nat.le_refl _⟩, ⟨by (with_reducible repeat (first | apply Kd.R_alloc | apply Kd.R_drewN | apply Kd.R_drew)); exact HO295.out⟩, ⟨by (with_reducible repeat (first | apply Kd.R_alloc | apply Kd.R_drewN | apply Kd.R_drew)); exact HO297.out⟩, ⟨by repeat (first | (with_reducible first | exact HB.out | apply below_alloc | apply pw_below_drewN | apply below_drew1) | exact HB.out)⟩⟩
        · as_aux_lemma =>
          rw [if_neg c14] at H
          have c14b0 : (t298 != t300) = false := by simpa using c14
          (try (have c14b1 : decide (t298 = t300) = true := by simpa using c14))
          (try (have c14b2 : (t298 == t300) = true := by simpa using c14))
          clear c14
          by_cases c15 : (t303 != t305) = true
          · as_aux_lemma =>
            rw [if_pos c15] at H
            have c15b0 : (t303 != t305) = true := c15
            (try (have c15b1 : decide (t303 = t305) = false := by simpa using c15))
            (try (have c15b2 : (t303 == t305) = false := by simpa using c15))
            (try (have c15b3 : ¬ (t303 = t305) := by simpa using c15))
            clear c15
            have H' := Aside0.mk H
            clear H
            go_wp2
            go_meet
            case rel => exact ⟨_, (true), (by first | rfl | (simp; done) | (simp [*]; done)), H', ⟨by first | omega | exact Nat.le_refl _⟩, ⟨by (with_reducible repeat (first | apply Kd.R_alloc | apply Kd.R_drewN | apply Kd.R_drew)); exact HO295.out⟩, ⟨by (with_reducible repeat (first | apply Kd.R_alloc | apply Kd.R_drewN | apply Kd.R_drew)); exact HO297.out⟩, ⟨by repeat (first | (with_reducible first | exact HB.out | apply below_alloc | apply pw_below_drewN | apply below_drew1) | exact HB.out)⟩⟩
          · as_aux_lemma =>
            rw [if_neg c15] at H
            have c15b0 : (t303 != t305) = false := by simpa using c15
            (try (have c15b1 : decide (t303 = t305) = true := by simpa using c15))
            (try (have c15b2 : (t303 == t305) = true := by simpa using c15))
            clear c15
            by_cases c16 : t302 = t304
            · as_aux_lemma =>
              rw [if_pos c16] at H
              have c16b0 : (t302 == t304) = true := beq_iff_eq.mpr c16
              have c16b1 : (t302 != t304) = false := bne_eq_false_iff_eq.mpr c16
              clear c16
              replace H := Option.bind_eq_some_iff.mp H
              obtain ⟨t306, A170, H⟩ := H
              replace H : ((spec_GoodStakes.f k t292).bind fun t307 => (laws_FnWeights.j0 k l1 t292 t293 t298 t299 t303 (t306 != t307))) = some r := H
              have A17 := Aside0.mk A170
              clear A170
              replace H := Option.bind_eq_some_iff.mp H
              obtain ⟨t307, A180, H⟩ := H
              replace H : (laws_FnWeights.j0 k l1 t292 t293 t298 t299 t303 (t306 != t307)) = some r := H
              have A18 := Aside0.mk A180
              clear A180
              have H' := Aside0.mk H
              clear H
              go_wp2_with (first | (go_at_call 17; (with_reducible refine (impl_GoodStakes.calls k _ _ t292 t306 _ ?side1 ?side2 A17.out).mono ?_); (case side1 => repeat (first | exact (Kd.R_reads' HO295.out).2.2 | (with_reducible refine Kd.C_alloc ?_ _) | (with_reducible refine Kd.C_drewN ?_ _) | (with_reducible refine Kd.C_drew ?_))); (case side2 => exact (Kd.R_reads' HO295.out).2.1); rintro e w' ⟨rfl, ⟨nd, rfl⟩⟩) | (go_at_call 15; (with_reducible refine (spec_GoodStakes.calls k _ _ t292 t307 _ ?side1 ?side2 A18.out).mono ?_); (case side1 => repeat (first | exact (Kd.R_reads' HO295.out).2.2 | (with_reducible refine Kd.C_alloc ?_ _) | (with_reducible refine Kd.C_drewN ?_ _) | (with_reducible refine Kd.C_drew ?_))); (case side2 => exact (Kd.R_reads' HO295.out).2.1); rintro e w' ⟨rfl, ⟨nd, rfl⟩⟩))
              go_meet
              case rel => exact ⟨_, ((t306 != t307)), (by first | rfl | (simp; done) | (simp [*]; done)), H', ⟨by first | omega | exact Nat.le_refl _⟩, ⟨by (with_reducible repeat (first | apply Kd.R_alloc | apply Kd.R_drewN | apply Kd.R_drew)); exact HO295.out⟩, ⟨by (with_reducible repeat (first | apply Kd.R_alloc | apply Kd.R_drewN | apply Kd.R_drew)); exact HO297.out⟩, ⟨by repeat (first | (with_reducible first | exact HB.out | apply below_alloc | apply pw_below_drewN | apply below_drew1) | exact HB.out)⟩⟩
            · as_aux_lemma =>
              rw [if_neg c16] at H
              have c16b0 : (t302 == t304) = false := beq_eq_false_iff_ne.mpr c16
              have c16b1 : (t302 != t304) = true := bne_iff_ne.mpr c16
              have H' := Aside0.mk H
              clear H
              go_wp2
              go_meet
              case rel => exact ⟨_, (true), (by first | rfl | (simp; done) | (simp [*]; done)), H', ⟨by first | omega | exact Nat.le_refl _⟩, ⟨by (with_reducible repeat (first | apply Kd.R_alloc | apply Kd.R_drewN | apply Kd.R_drew)); exact HO295.out⟩, ⟨by (with_reducible repeat (first | apply Kd.R_alloc | apply Kd.R_drewN | apply Kd.R_drew)); exact HO297.out⟩, ⟨by repeat (first | (with_reducible first | exact HB.out | apply below_alloc | apply pw_below_drewN | apply below_drew1) | exact HB.out)⟩⟩
    case rest =>
      clear HC9
      try clear c1
      try clear c2
      try clear p2
      try clear c3
      try clear c3b0
      try clear c4
      try clear p6
      try clear c13
      try clear c13b0
      try clear c13b1
      try clear c13b2
      try clear c14
      try clear c14b0
      try clear c14b1
      try clear c14b2
      try clear c15
      try clear c15b0
      try clear c15b1
      try clear c15b2
      try clear c16
      try clear c16b0
      try clear c16b1
      obtain ⟨kq, x99_8, rfl, HA, HJ8, HO_5, HO_6, HB⟩ := hcut
      cases kq with
      | zero => exact absurd HA.out (by simp [laws_FnWeights.j0])
      | succ kj8 =>
        have H := HA.out
        clear HA
        simp only [laws_FnWeights.j0] at H
        by_cases c19 : x99_8 = true
        · as_aux_lemma =>
          subst c19
          have H1 : (some false) = some r := by rw [if_pos rfl] at H; exact H
          clear H
          have H := H1
          clear H1
          obtain rfl := Option.some.inj H
          go_wp2
          go_ret
          exact ⟨by first | rfl | (simp [errW_none, errW_some] <;> rfl) | (simp [*, errW_none, errW_some] <;> rfl), by repeat (first | (with_reducible first | exact HB.out | apply below_alloc | apply pw_below_drewN | apply below_drew1) | exact HB.out)⟩
        · as_aux_lemma =>
          replace c19 := Bool.eq_false_iff.mpr c19
          subst c19
          have H1 : (if t299 = true then ((laws_numberOf.f kj8 l1).bind fun t308 => (if 0 ≤ (IntKind.u64.wrap ((t292.length : Int))) then (if (shl .i64 1 (IntKind.u64.wrap ((t292.length : Int)))) = 0 then (none) else ((impl_OfMask.f kj8 (Int.tmod t308 (shl .i64 1 (IntKind.u64.wrap ((t292.length : Int)))))).bind fun bt309 => ((impl_IsGreat.f kj8 t292 bt309.1).bind fun bt313 => ((impl_InBoth.f kj8 t293 bt309.1).bind fun bt315 => ((impl_WeightOf.f kj8 t292 bt315.1).bind fun bt319 => (if t303 = true then (if bt309.2 = true then (if bt313.2 = true then (if bt315.2 = true then (if bt319.2 = true then (if t298 = true then (if bt313.1 = true then ((laws_sumOf.f kj8 t292).bind fun t321 => (if (wrap64 (3 * bt319.1)) < t321 then (some false) else (laws_FnWeights.j1 kj8 l1))) else (laws_FnWeights.j1 kj8 l1)) else (laws_FnWeights.j1 kj8 l1)) else (some false)) else (some false)) else (some false)) else (some false)) else (some false))))))) else (none))) else (laws_FnWeights.j1 kj8 l1)) = some r := by rw [if_neg (show ¬ (false = true) by decide)] at H; exact H
          clear H
          have H := H1
          clear H1
          have HC20 := Aside0.mk H
          clear H
          go_upto_if 100 with (fail)
          go_cut [] (fun wc => ∃ (kq : Nat), Aside0 (laws_FnWeights.j1 kq l1 = some r) ∧ Aside0 (kq ≤ kj8) ∧ Aside0 (Below w.heap.size w wc))
          case first =>
            have H := HC20.out
            clear HC20
            by_cases c21 : t299 = true
            · as_aux_lemma =>
              subst c21
              have H1 : ((laws_numberOf.f kj8 l1).bind fun t308 => (if 0 ≤ (IntKind.u64.wrap ((t292.length : Int))) then (if (shl .i64 1 (IntKind.u64.wrap ((t292.length : Int)))) = 0 then (none) else ((impl_OfMask.f kj8 (Int.tmod t308 (shl .i64 1 (IntKind.u64.wrap ((t292.length : Int)))))).bind fun bt309 => ((impl_IsGreat.f kj8 t292 bt309.1).bind fun bt313 => ((impl_InBoth.f kj8 t293 bt309.1).bind fun bt315 => ((impl_WeightOf.f kj8 t292 bt315.1).bind fun bt319 => (if t303 = true then (if bt309.2 = true then (if bt313.2 = true then (if bt315.2 = true then (if bt319.2 = true then (if t298 = true then (if bt313.1 = true then ((laws_sumOf.f kj8 t292).bind fun t321 => (if (wrap64 (3 * bt319.1)) < t321 then (some false) else (laws_FnWeights.j1 kj8 l1))) else (laws_FnWeights.j1 kj8 l1)) else (laws_FnWeights.j1 kj8 l1)) else (some false)) else (some false)) else (some false)) else (some false)) else (some false))))))) else (none))) = some r := by rw [if_pos rfl] at H; exact H
              clear H
              have H := H1
              clear H1
              replace H := Option.bind_eq_some_iff.mp H
              obtain ⟨t308, A220, H⟩ := H
              replace H : (if 0 ≤ (IntKind.u64.wrap ((t292.length : Int))) then (if (shl .i64 1 (IntKind.u64.wrap ((t292.length : Int)))) = 0 then (none) else ((impl_OfMask.f kj8 (Int.tmod t308 (shl .i64 1 (IntKind.u64.wrap ((t292.length : Int)))))).bind fun bt309 => ((impl_IsGreat.f kj8 t292 bt309.1).bind fun bt313 => ((impl_InBoth.f kj8 t293 bt309.1).bind fun bt315 => ((impl_WeightOf.f kj8 t292 bt315.1).bind fun bt319 => (if t303 = true then (if bt309.2 = true then (if bt313.2 = true then (if bt315.2 = true then (if bt319.2 = true then (if t298 = true then (if bt313.1 = true then ((laws_sumOf.f kj8 t292).bind fun t321 => (if (wrap64 (3 * bt319.1)) < t321 then (some false) else (laws_FnWeights.j1 kj8 l1))) else (laws_FnWeights.j1 kj8 l1)) else (laws_FnWeights.j1 kj8 l1)) else (some false)) else (some false)) else (some false)) else (some false)) else (some false))))))) else (none)) = some r := H
              have A22 := Aside0.mk A220
              clear A220
              obtain ⟨ji23, hji23⟩ : ∃ j_ : Int, (IntKind.u64.wrap ((t292.length : Int))) = j_ := ⟨_, rfl⟩
              replace H : (if 0 ≤ (ji23) then (if (shl .i64 1 (ji23)) = 0 then (none) else ((impl_OfMask.f kj8 (Int.tmod t308 (shl .i64 1 (ji23)))).bind fun bt309 => ((impl_IsGreat.f kj8 t292 bt309.1).bind fun bt313 => ((impl_InBoth.f kj8 t293 bt309.1).bind fun bt315 => ((impl_WeightOf.f kj8 t292 bt315.1).bind fun bt319 => (if t303 = true then (if bt309.2 = true then (if bt313.2 = true then (if bt315.2 = true then (if bt319.2 = true then (if t298 = true then (if bt313.1 = true then ((laws_sumOf.f kj8 t292).bind fun t321 => (if (wrap64 (3 * bt319.1)) < t321 then (some false) else (laws_FnWeights.j1 kj8 l1))) else (laws_FnWeights.j1 kj8 l1)) else (laws_FnWeights.j1 kj8 l1)) else (some false)) else (some false)) else (some false)) else (some false)) else (some false))))))) else (none)) = some r := by first | (rw [hji23] at H; exact H) | (simp only [hji23] at H ⊢; exact H)
              (try rw [hji23] at A22)
              by_cases c24 : 0 ≤ (ji23)
              · as_aux_lemma =>
                rw [if_pos c24] at H
                have c24b0 := eq_true c24
                have c24b1 : decide (0 ≤ (ji23)) = true := decide_eq_true c24
                clear c24
                obtain ⟨ji25, hji25⟩ : ∃ j_ : Int, (shl .i64 1 (ji23)) = j_ := ⟨_, rfl⟩
                replace H : (if (ji25) = 0 then (none) else ((impl_OfMask.f kj8 (Int.tmod t308 (ji25))).bind fun bt309 => ((impl_IsGreat.f kj8 t292 bt309.1).bind fun bt313 => ((impl_InBoth.f kj8 t293 bt309.1).bind fun bt315 => ((impl_WeightOf.f kj8 t292 bt315.1).bind fun bt319 => (if t303 = true then (if bt309.2 = true then (if bt313.2 = true then (if bt315.2 = true then (if bt319.2 = true then (if t298 = true then (if bt313.1 = true then ((laws_sumOf.f kj8 t292).bind fun t321 => (if (wrap64 (3 * bt319.1)) < t321 then (some false) else (laws_FnWeights.j1 kj8 l1))) else (laws_FnWeights.j1 kj8 l1)) else (laws_FnWeights.j1 kj8 l1)) else (some false)) else (some false)) else (some false)) else (some false)) else (some false))))))) = some r := by first | (rw [hji25] at H; exact H) | (simp only [hji25] at H ⊢; exact H)
                (try rw [hji25] at A22)
                have hji25_ : (IntKind.i64.wrap (1 * 2 ^ min (ji23).toNat 64)) = ji25 := hji25
                have hji25z : (ji23) ≤ 64 → (IntKind.i64.wrap (1 * 2 ^ (ji23).toNat)) = ji25 := shl_small hji25
                have hji25u : (IntKind.i64.wrap (2 ^ min (ji23).toNat 64)) = ji25 := by have h_ := hji25_; rw [Int.one_mul] at h_; exact h_
                have hji25v : (ji23) ≤ 64 → (IntKind.i64.wrap (2 ^ (ji23).toNat)) = ji25 := fun hle_ => by have h_ := hji25z hle_; rw [Int.one_mul] at h_; exact h_
                have hji25y : (wrap64 (1 * 2 ^ min (ji23).toNat 64)) = ji25 := (i64_w _).symm.trans hji25_
                have hji25x : (ji23) ≤ 64 → (wrap64 (1 * 2 ^ (ji23).toNat)) = ji25 := fun h_ => (i64_w _).symm.trans (hji25z h_)
                by_cases c26 : (ji25) = 0
                · as_aux_lemma =>
                  rw [if_pos c26] at H
                  exact absurd H (by simp)
                · as_aux_lemma =>
                  rw [if_neg c26] at H
                  have c26b0 : ((ji25) == 0) = false := beq_eq_false_iff_ne.mpr c26
                  have c26b1 : ((ji25) != 0) = true := bne_iff_ne.mpr c26
                  (first | rw [c26b0] | (simp only [i64_w, i32_w]; rw [c26b0]) | skip)
                  replace H := Option.bind_eq_some_iff.mp H
                  obtain ⟨⟨t309, t310⟩, A270, H⟩ := H
                  replace H : ((impl_IsGreat.f kj8 t292 t309).bind fun bt313 => ((impl_InBoth.f kj8 t293 t309).bind fun bt315 => ((impl_WeightOf.f kj8 t292 bt315.1).bind fun bt319 => (if t303 = true then (if t310 = true then (if bt313.2 = true then (if bt315.2 = true then (if bt319.2 = true then (if t298 = true then (if bt313.1 = true then ((laws_sumOf.f kj8 t292).bind fun t321 => (if (wrap64 (3 * bt319.1)) < t321 then (some false) else (laws_FnWeights.j1 kj8 l1))) else (laws_FnWeights.j1 kj8 l1)) else (laws_FnWeights.j1 kj8 l1)) else (some false)) else (some false)) else (some false)) else (some false)) else (some false))))) = some r := H
                  have A27 := Aside0.mk A270
                  clear A270
                  replace H := Option.bind_eq_some_iff.mp H
                  obtain ⟨⟨t313, t314⟩, A280, H⟩ := H
                  replace H : ((impl_InBoth.f kj8 t293 t309).bind fun bt315 => ((impl_WeightOf.f kj8 t292 bt315.1).bind fun bt319 => (if t303 = true then (if t310 = true then (if t314 = true then (if bt315.2 = true then (if bt319.2 = true then (if t298 = true then (if t313 = true then ((laws_sumOf.f kj8 t292).bind fun t321 => (if (wrap64 (3 * bt319.1)) < t321 then (some false) else (laws_FnWeights.j1 kj8 l1))) else (laws_FnWeights.j1 kj8 l1)) else (laws_FnWeights.j1 kj8 l1)) else (some false)) else (some false)) else (some false)) else (some false)) else (some false)))) = some r := H
                  have A28 := Aside0.mk A280
                  clear A280
                  replace H := Option.bind_eq_some_iff.mp H
                  obtain ⟨⟨t315, t316⟩, A290, H⟩ := H
                  replace H : ((impl_WeightOf.f kj8 t292 t315).bind fun bt319 => (if t303 = true then (if t310 = true then (if t314 = true then (if t316 = true then (if bt319.2 = true then (if t298 = true then (if t313 = true then ((laws_sumOf.f kj8 t292).bind fun t321 => (if (wrap64 (3 * bt319.1)) < t321 then (some false) else (laws_FnWeights.j1 kj8 l1))) else (laws_FnWeights.j1 kj8 l1)) else (laws_FnWeights.j1 kj8 l1)) else (some false)) else (some false)) else (some false)) else (some false)) else (some false))) = some r := H
                  have A29 := Aside0.mk A290
                  clear A290
                  replace H := Option.bind_eq_some_iff.mp H
                  obtain ⟨⟨t319, t320⟩, A300, H⟩ := H
                  replace H : (if t303 = true then (if t310 = true then (if t314 = true then (if t316 = true then (if t320 = true then (if t298 = true then (if t313 = true then ((laws_sumOf.f kj8 t292).bind fun t321 => (if (wrap64 (3 * t319)) < t321 then (some false) else (laws_FnWeights.j1 kj8 l1))) else (laws_FnWeights.j1 kj8 l1)) else (laws_FnWeights.j1 kj8 l1)) else (some false)) else (some false)) else (some false)) else (some false)) else (some false)) = some r := H
                  have A30 := Aside0.mk A300
                  clear A300
                  by_cases c31 : t303 = true
                  · as_aux_lemma =>
                    subst c31
                    have H1 : (if t310 = true then (if t314 = true then (if t316 = true then (if t320 = true then (if t298 = true then (if t313 = true then ((laws_sumOf.f kj8 t292).bind fun t321 => (if (wrap64 (3 * t319)) < t321 then (some false) else (laws_FnWeights.j1 kj8 l1))) else (laws_FnWeights.j1 kj8 l1)) else (laws_FnWeights.j1 kj8 l1)) else (some false)) else (some false)) else (some false)) else (some false)) = some r := by rw [if_pos rfl] at H; exact H
                    clear H
                    have H := H1
                    clear H1
                    by_cases c32 : t310 = true
                    · as_aux_lemma =>
                      subst c32
                      have H1 : (if t314 = true then (if t316 = true then (if t320 = true then (if t298 = true then (if t313 = true then ((laws_sumOf.f kj8 t292).bind fun t321 => (if (wrap64 (3 * t319)) < t321 then (some false) else (laws_FnWeights.j1 kj8 l1))) else (laws_FnWeights.j1 kj8 l1)) else (laws_FnWeights.j1 kj8 l1)) else (some false)) else (some false)) else (some false)) = some r := by rw [if_pos rfl] at H; exact H
                      clear H
                      have H := H1
                      clear H1
                      by_cases c33 : t314 = true
                      · as_aux_lemma =>
                        subst c33
                        have H1 : (if t316 = true then (if t320 = true then (if t298 = true then (if t313 = true then ((laws_sumOf.f kj8 t292).bind fun t321 => (if (wrap64 (3 * t319)) < t321 then (some false) else (laws_FnWeights.j1 kj8 l1))) else (laws_FnWeights.j1 kj8 l1)) else (laws_FnWeights.j1 kj8 l1)) else (some false)) else (some false)) = some r := by rw [if_pos rfl] at H; exact H
                        clear H
                        have H := H1
                        clear H1
                        by_cases c34 : t316 = true
                        · as_aux_lemma =>
                          subst c34
                          have H1 : (if t320 = true then (if t298 = true then (if t313 = true then ((laws_sumOf.f kj8 t292).bind fun t321 => (if (wrap64 (3 * t319)) < t321 then (some false) else (laws_FnWeights.j1 kj8 l1))) else (laws_FnWeights.j1 kj8 l1)) else (laws_FnWeights.j1 kj8 l1)) else (some false)) = some r := by rw [if_pos rfl] at H; exact H
                          clear H
                          have H := H1
                          clear H1
                          by_cases c35 : t320 = true
                          · as_aux_lemma =>
                            subst c35
                            have H1 : (if t298 = true then (if t313 = true then ((laws_sumOf.f kj8 t292).bind fun t321 => (if (wrap64 (3 * t319)) < t321 then (some false) else (laws_FnWeights.j1 kj8 l1))) else (laws_FnWeights.j1 kj8 l1)) else (laws_FnWeights.j1 kj8 l1)) = some r := by rw [if_pos rfl] at H; exact H
                            clear H
                            have H := H1
                            clear H1
                            by_cases c36 : t298 = true
                            · as_aux_lemma =>
                              subst c36
                              have H1 : (if t313 = true then ((laws_sumOf.f kj8 t292).bind fun t321 => (if (wrap64 (3 * t319)) < t321 then (some false) else (laws_FnWeights.j1 kj8 l1))) else (laws_FnWeights.j1 kj8 l1)) = some r := by rw [if_pos rfl] at H; exact H
                              clear H
                              have H := H1
                              clear H1
                              by_cases c37 : t313 = true
                              · as_aux_lemma =>
                                subst c37
                                have H1 : ((laws_sumOf.f kj8 t292).bind fun t321 => (if (wrap64 (3 * t319)) < t321 then (some false) else (laws_FnWeights.j1 kj8 l1))) = some r := by rw [if_pos rfl] at H; exact H
                                clear H
                                have H := H1
                                clear H1
                                replace H := Option.bind_eq_some_iff.mp H
                                obtain ⟨t321, A380, H⟩ := H
                                replace H : (if (wrap64 (3 * t319)) < t321 then (some false) else (laws_FnWeights.j1 kj8 l1)) = some r := H
                                have A38 := Aside0.mk A380
                                clear A380
                                by_cases c39 : (wrap64 (3 * t319)) < t321
                                · as_aux_lemma =>
                                  rw [if_pos c39] at H
                                  have c39b0 : decide ((wrap64 (3 * t319)) < t321) = true := decide_eq_true c39
                                  clear c39
                                  obtain rfl := Option.some.inj H
                                  go_wp2_with (first | ((with_reducible refine gate_callee (f := 39) rfl ?_); refine goesL_ (some 103) rfl rfl Try.func39 (by kernel_rfl) rfl #[.slice A1 l1.length c1] rfl (by (try simp only [List.map_toArray, List.map_cons, List.map_nil]); first | done | rfl | (simp only [List.length_drop, List.length_take]; rfl)) ?_; (with_reducible refine (laws_numberOf.calls kj8 _ _ l1 t308 _ ?side1 ?side2 A22.out).mono ?_); (case side1 => repeat (first | exact (Kd.C_below HR1.out HB.out) | (with_reducible refine Kd.C_alloc ?_ _) | (with_reducible refine Kd.C_drewN ?_ _) | (with_reducible refine Kd.C_drew ?_))); (case side2 => exact HC1.out); rintro e w' ⟨rfl, ⟨nd, rfl⟩⟩; refine ⟨_, rfl, ?_⟩) | ((with_reducible refine gate_callee (f := 48) rfl ?_); refine goesL_ (some 109) rfl rfl Try.func48 (by kernel_rfl) rfl #[.int .i64 (Int.tmod t308 (ji25))] rfl (by (try simp only [List.map_toArray, List.map_cons, List.map_nil]); first | done | (simp only [hji25]; rfl) | rfl | (simp only [List.length_drop, List.length_take]; rfl)) ?_; (with_reducible refine (impl_OfMask.calls kj8 (Int.tmod t308 (ji25)) t309 true _ A27.out).mono ?_); rintro e w40 ⟨v311, rfl, ho0, hb⟩; refine ⟨_, rfl, ?_⟩; have n0_ := Aside0.mk (Kd.R_elder' (by (with_reducible repeat (first | apply Kd.R_alloc | apply Kd.R_drewN | apply Kd.R_drew)); exact HO_5.out) (Kd.R_base ho0) hb); have n1_ := Aside0.mk (Kd.R_elder' (by (with_reducible repeat (first | apply Kd.R_alloc | apply Kd.R_drewN | apply Kd.R_drew)); exact HO_6.out) (Kd.R_base ho0) hb); have n2_ := Aside0.mk (Kd.R_lower (Kd.R_new' (Kd.R_new' ho0 (Kd.R_lt (by (with_reducible repeat (first | apply Kd.R_alloc | apply Kd.R_drewN | apply Kd.R_drew)); exact HO_5.out))) (Kd.R_lt (by (with_reducible repeat (first | apply Kd.R_alloc | apply Kd.R_drewN | apply Kd.R_drew)); exact HO_6.out))) (below_size (by repeat (first | (with_reducible first | exact HB.out | apply below_alloc | apply pw_below_drewN | apply below_drew1) | exact HB.out)))); have n3_ := Aside0.mk (below_step (by repeat (first | (with_reducible first | exact HB.out | apply below_alloc | apply pw_below_drewN | apply below_drew1) | exact HB.out)) hb); clear HO_5; clear HO_6; clear HB; have HO_5 := n0_; have HO_6 := n1_; have HO312 := n2_; have HB := n3_; clear n0_ n1_ n2_ n3_; (try clear hb); (try clear hb2); (try clear hk); (try clear hi); (try clear ho0); obtain ⟨Ao41, co41, eo41⟩ := Kd.R_slice HO312.out; subst eo41) | ((with_reducible refine gate_callee (f := 26) rfl ?_); refine goesL_ (some 115) rfl rfl Try.func26 (by kernel_rfl) rfl #[.slice Ao11 t292.length co11, .slice Ao41 t309.length co41] rfl (by (try simp only [List.map_toArray, List.map_cons, List.map_nil]); first | done | rfl | (simp only [List.length_drop, List.length_take]; rfl)) ?_; (with_reducible refine (impl_IsGreat.calls kj8 _ _ t292 _ _ t309 true true _ ?side1 ?side2 ?side3 ?side4 A28.out).mono ?_); (case side1 => repeat (first | exact (Kd.R_reads' HO_5.out).2.2 | (with_reducible refine Kd.C_alloc ?_ _) | (with_reducible refine Kd.C_drewN ?_ _) | (with_reducible refine Kd.C_drew ?_))); (case side2 => exact (Kd.R_reads' HO_5.out).2.1); (case side3 => repeat (first | exact (Kd.R_reads' HO312.out).2.2 | (with_reducible refine Kd.C_alloc ?_ _) | (with_reducible refine Kd.C_drewN ?_ _) | (with_reducible refine Kd.C_drew ?_))); (case side4 => exact (Kd.R_reads' HO312.out).2.1); rintro e w' ⟨rfl, ⟨nd, rfl⟩⟩; refine ⟨_, rfl, ?_⟩) | ((with_reducible refine gate_callee (f := 49) rfl ?_); refine goesL_ (some 121) rfl rfl Try.func49 (by kernel_rfl) rfl #[.slice Ao12 t293.length co12, .slice Ao41 t309.length co41] rfl (by (try simp only [List.map_toArray, List.map_cons, List.map_nil]); first | done | rfl | (simp only [List.length_drop, List.length_take]; rfl)) ?_; (with_reducible refine (impl_InBoth.calls kj8 _ _ t293 _ _ t309 t315 true _ ?side1 ?side2 ?side3 ?side4 A29.out).mono ?_); (case side1 => repeat (first | exact (Kd.R_reads' HO_6.out).2.2 | (with_reducible refine Kd.C_alloc ?_ _) | (with_reducible refine Kd.C_drewN ?_ _) | (with_reducible refine Kd.C_drew ?_))); (case side2 => exact (Kd.R_reads' HO_6.out).2.1); (case side3 => repeat (first | exact (Kd.R_reads' HO312.out).2.2 | (with_reducible refine Kd.C_alloc ?_ _) | (with_reducible refine Kd.C_drewN ?_ _) | (with_reducible refine Kd.C_drew ?_))); (case side4 => exact (Kd.R_reads' HO312.out).2.1); rintro e w42 ⟨v317, rfl, ho0, hb⟩; refine ⟨_, rfl, ?_⟩; have n0_ := Aside0.mk (Kd.R_elder' (by (with_reducible repeat (first | apply Kd.R_alloc | apply Kd.R_drewN | apply Kd.R_drew)); exact HO_5.out) (Kd.R_base ho0) hb); have n1_ := Aside0.mk (Kd.R_elder' (by (with_reducible repeat (first | apply Kd.R_alloc | apply Kd.R_drewN | apply Kd.R_drew)); exact HO_6.out) (Kd.R_base ho0) hb); have n2_ := Aside0.mk (Kd.R_elder' (by (with_reducible repeat (first | apply Kd.R_alloc | apply Kd.R_drewN | apply Kd.R_drew)); exact HO312.out) (Kd.R_base ho0) hb); have n3_ := Aside0.mk (Kd.R_lower (Kd.R_new' (Kd.R_new' (Kd.R_new' ho0 (Kd.R_lt (by (with_reducible repeat (first | apply Kd.R_alloc | apply Kd.R_drewN | apply Kd.R_drew)); exact HO_5.out))) (Kd.R_lt (by (with_reducible repeat (first | apply Kd.R_alloc | apply Kd.R_drewN | apply Kd.R_drew)); exact HO_6.out))) (Kd.R_lt (by (with_reducible repeat (first | apply Kd.R_alloc | apply Kd.R_drewN | apply Kd.R_drew)); exact HO312.out))) (below_size (by repeat (first | (with_reducible first | exact HB.out | apply below_alloc | apply pw_below_drewN | apply below_drew1) | exact HB.out)))); have n4_ := Aside0.mk (below_step (by repeat (first | (with_reducible first | exact HB.out | apply below_alloc | apply pw_below_drewN | apply below_drew1) | exact HB.out)) hb); clear HO_5; clear HO_6; clear HO312; clear HB; have HO_5 := n0_; have HO_6 := n1_; have HO312 := n2_; have HO318 := n3_; have HB := n4_; clear n0_ n1_ n2_ n3_ n4_; (try clear hb); (try clear hb2); (try clear hk); (try clear hi); (try clear ho0); obtain ⟨Ao43, co43, eo43⟩ := Kd.R_slice HO318.out; subst eo43) | ((with_reducible refine gate_callee (f := 22) rfl ?_); refine goesL_ (some 127) rfl rfl Try.func22 (by kernel_rfl) rfl #[.slice Ao11 t292.length co11, .slice Ao43 t315.length co43] rfl (by (try simp only [List.map_toArray, List.map_cons, List.map_nil]); first | done | rfl | (simp only [List.length_drop, List.length_take]; rfl)) ?_; (with_reducible refine (impl_WeightOf.calls kj8 _ _ t292 _ _ t315 t319 true _ ?side1 ?side2 ?side3 ?side4 A30.out).mono ?_); (case side1 => repeat (first | exact (Kd.R_reads' HO_5.out).2.2 | (with_reducible refine Kd.C_alloc ?_ _) | (with_reducible refine Kd.C_drewN ?_ _) | (with_reducible refine Kd.C_drew ?_))); (case side2 => exact (Kd.R_reads' HO_5.out).2.1); (case side3 => repeat (first | exact (Kd.R_reads' HO318.out).2.2 | (with_reducible refine Kd.C_alloc ?_ _) | (with_reducible refine Kd.C_drewN ?_ _) | (with_reducible refine Kd.C_drew ?_))); (case side4 => exact (Kd.R_reads' HO318.out).2.1); rintro e w' ⟨rfl, ⟨nd, rfl⟩⟩; refine ⟨_, rfl, ?_⟩) | (go_at_call 41; (with_reducible refine (laws_sumOf.calls kj8 _ _ t292 t321 _ ?side1 ?side2 A38.out).mono ?_); (case side1 => repeat (first | exact (Kd.R_reads' HO_5.out).2.2 | (with_reducible refine Kd.C_alloc ?_ _) | (with_reducible refine Kd.C_drewN ?_ _) | (with_reducible refine Kd.C_drew ?_))); (case side2 => exact (Kd.R_reads' HO_5.out).2.1); rintro e w' ⟨rfl, ⟨nd, rfl⟩⟩))
                                  go_ret
                                  exact ⟨by first | rfl | (simp [errW_none, errW_some] <;> rfl) | (simp only [← hji23, ← hji25]; first | rfl | (simp [errW_none, errW_some] <;> rfl)) | (simp [*, errW_none, errW_some] <;> rfl), by repeat (first | (with_reducible first | exact HB.out | apply below_alloc | apply pw_below_drewN | apply below_drew1) | exact HB.out)⟩
                                · as_aux_lemma =>
                                  rw [if_neg c39] at H
                                  have c39b0 : decide ((wrap64 (3 * t319)) < t321) = false := decide_eq_false c39
                                  clear c39
                                  have H' := Aside0.mk H
                                  clear H
                                  go_wp2_with (first | ((with_reducible refine gate_callee (f := 39) rfl ?_); refine goesL_ (some 103) rfl rfl Try.func39 (by kernel_rfl) rfl #[.slice A1 l1.length c1] rfl (by (try simp only [List.map_toArray, List.map_cons, List.map_nil]); first | done | rfl | (simp only [List.length_drop, List.length_take]; rfl)) ?_; (with_reducible refine (laws_numberOf.calls kj8 _ _ l1 t308 _ ?side1 ?side2 A22.out).mono ?_); (case side1 => repeat (first | exact (Kd.C_below HR1.out HB.out) | (with_reducible refine Kd.C_alloc ?_ _) | (with_reducible refine Kd.C_drewN ?_ _) | (with_reducible refine Kd.C_drew ?_))); (case side2 => exact HC1.out); rintro e w' ⟨rfl, ⟨nd, rfl⟩⟩; refine ⟨_, rfl, ?_⟩) | ((with_reducible refine gate_callee (f := 48) rfl ?_); refine goesL_ (some 109) rfl rfl Try.func48 (by kernel_rfl) rfl #[.int .i64 (Int.tmod t308 (ji25))] rfl (by (try simp only [List.map_toArray, List.map_cons, List.map_nil]); first | done | (simp only [hji25]; rfl) | rfl | (simp only [List.length_drop, List.length_take]; rfl)) ?_; (with_reducible refine (impl_OfMask.calls kj8 (Int.tmod t308 (ji25)) t309 true _ A27.out).mono ?_); rintro e w44 ⟨v311, rfl, ho0, hb⟩; refine ⟨_, rfl, ?_⟩; have n0_ := Aside0.mk (Kd.R_elder' (by (with_reducible repeat (first | apply Kd.R_alloc | apply Kd.R_drewN | apply Kd.R_drew)); exact HO_5.out) (Kd.R_base ho0) hb); have n1_ := Aside0.mk (Kd.R_elder' (by (with_reducible repeat (first | apply Kd.R_alloc | apply Kd.R_drewN | apply Kd.R_drew)); exact HO_6.out) (Kd.R_base ho0) hb); have n2_ := Aside0.mk (Kd.R_lower (Kd.R_new' (Kd.R_new' ho0 (Kd.R_lt (by (with_reducible repeat (first | apply Kd.R_alloc | apply Kd.R_drewN | apply Kd.R_drew)); exact HO_5.out))) (Kd.R_lt (by (with_reducible repeat (first | apply Kd.R_alloc | apply Kd.R_drewN | apply Kd.R_drew)); exact HO_6.out))) (below_size (by repeat (first | (with_reducible first | exact HB.out | apply below_alloc | apply pw_below_drewN | apply below_drew1) | exact HB.out)))); have n3_ := Aside0.mk (below_step (by repeat (first | (with_reducible first | exact HB.out | apply below_alloc | apply pw_below_drewN | apply below_drew1) | exact HB.out)) hb); clear HO_5; clear HO_6; clear HB; have HO_5 := n0_; have HO_6 := n1_; have HO312 := n2_; have HB := n3_; clear n0_ n1_ n2_ n3_; (try clear hb); (try clear hb2); (try clear hk); (try clear hi); (try clear ho0); obtain ⟨Ao45, co45, eo45⟩ := Kd.R_slice HO312.out; subst eo45) | ((with_reducible refine gate_callee (f := 26) rfl ?_); refine goesL_ (some 115) rfl rfl Try.func26 (by kernel_rfl) rfl #[.slice Ao11 t292.length co11, .slice Ao45 t309.length co45] rfl (by (try simp only [List.map_toArray, List.map_cons, List.map_nil]); first | done | rfl | (simp only [List.length_drop, List.length_take]; rfl)) ?_; (with_reducible refine (impl_IsGreat.calls kj8 _ _ t292 _ _ t309 true true _ ?side1 ?side2 ?side3 ?side4 A28.out).mono ?_); (case side1 => repeat (first | exact (Kd.R_reads' HO_5.out).2.2 | (with_reducible refine Kd.C_alloc ?_ _) | (with_reducible refine Kd.C_drewN ?_ _) | (with_reducible refine Kd.C_drew ?_))); (case side2 => exact (Kd.R_reads' HO_5.out).2.1); (case side3 => repeat (first | exact (Kd.R_reads' HO312.out).2.2 | (with_reducible refine Kd.C_alloc ?_ _) | (with_reducible refine Kd.C_drewN ?_ _) | (with_reducible refine Kd.C_drew ?_))); (case side4 => exact (Kd.R_reads' HO312.out).2.1); rintro e w' ⟨rfl, ⟨nd, rfl⟩⟩; refine ⟨_, rfl, ?_⟩) | ((with_reducible refine gate_callee (f := 49) rfl ?_); refine goesL_ (some 121) rfl rfl Try.func49 (by kernel_rfl) rfl #[.slice Ao12 t293.length co12, .slice Ao45 t309.length co45] rfl (by (try simp only [List.map_toArray, List.map_cons, List.map_nil]); first | done | rfl | (simp only [List.length_drop, List.length_take]; rfl)) ?_; (with_reducible refine (impl_InBoth.calls kj8 _ _ t293 _ _ t309 t315 true _ ?side1 ?side2 ?side3 ?side4 A29.out).mono ?_); (case side1 => repeat (first | exact (Kd.R_reads' HO_6.out).2.2 | (with_reducible refine Kd.C_alloc ?_ _) | (with_reducible refine Kd.C_drewN ?_ _) | (with_reducible refine Kd.C_drew ?_))); (case side2 => exact (Kd.R_reads' HO_6.out).2.1); (case side3 => repeat (first | exact (Kd.R_reads' HO312.out).2.2 | (with_reducible refine Kd.C_alloc ?_ _) | (with_reducible refine Kd.C_drewN ?_ _) | (with_reducible refine Kd.C_drew ?_))); (case side4 => exact (Kd.R_reads' HO312.out).2.1); rintro e w46 ⟨v317, rfl, ho0, hb⟩; refine ⟨_, rfl, ?_⟩; have n0_ := Aside0.mk (Kd.R_elder' (by (with_reducible repeat (first | apply Kd.R_alloc | apply Kd.R_drewN | apply Kd.R_drew)); exact HO_5.out) (Kd.R_base ho0) hb); have n1_ := Aside0.mk (Kd.R_elder' (by (with_reducible repeat (first | apply Kd.R_alloc | apply Kd.R_drewN | apply Kd.R_drew)); exact HO_6.out) (Kd.R_base ho0) hb); have n2_ := Aside0.mk (Kd.R_elder' (by (with_reducible repeat (first | apply Kd.R_alloc | apply Kd.R_drewN | apply Kd.R_drew)); exact HO312.out) (Kd.R_base ho0) hb); have n3_ := Aside0.mk (Kd.R_lower (Kd.R_new' (Kd.R_new' (Kd.R_new' ho0 (Kd.R_lt (by (with_reducible repeat (first | apply Kd.R_alloc | apply Kd.R_drewN | apply Kd.R_drew)); exact HO_5.out))) (Kd.R_lt (by (with_reducible repeat (first | apply Kd.R_alloc | apply Kd.R_drewN | apply Kd.R_drew)); exact HO_6.out))) (Kd.R_lt (by (with_reducible repeat (first | apply Kd.R_alloc | apply Kd.R_drewN | apply Kd.R_drew)); exact HO312.out))) (below_size (by repeat (first | (with_reducible first | exact HB.out | apply below_alloc | apply pw_below_drewN | apply below_drew1) | exact HB.out)))); have n4_ := Aside0.mk (below_step (by repeat (first | (with_reducible first | exact HB.out | apply below_alloc | apply pw_below_drewN | apply below_drew1) | exact HB.out)) hb); clear HO_5; clear HO_6; clear HO312; clear HB; have HO_5 := n0_; have HO_6 := n1_; have HO312 := n2_; have HO318 := n3_; have HB := n4_; clear n0_ n1_ n2_ n3_ n4_; (try clear hb); (try clear hb2); (try clear hk); (try clear hi); (try clear ho0); obtain ⟨Ao47, co47, eo47⟩ := Kd.R_slice HO318.out; subst eo47) | ((with_reducible refine gate_callee (f := 22) rfl ?_); refine goesL_ (some 127) rfl rfl Try.func22 (by kernel_rfl) rfl #[.slice Ao11 t292.length co11, .slice Ao47 t315.length co47] rfl (by (try simp only [List.map_toArray, List.map_cons, List.map_nil]); first | done | rfl | (simp only [List.length_drop, List.length_take]; rfl)) ?_; (with_reducible refine (impl_WeightOf.calls kj8 _ _ t292 _ _ t315 t319 true _ ?side1 ?side2 ?side3 ?side4 A30.out).mono ?_); (case side1 => repeat (first | exact (Kd.R_reads' HO_5.out).2.2 | (with_reducible refine Kd.C_alloc ?_ _) | (with_reducible refine Kd.C_drewN ?_ _) | (with_reducible refine Kd.C_drew ?_))); (case side2 => exact (Kd.R_reads' HO_5.out).2.1); (case side3 => repeat (first | exact (Kd.R_reads' HO318.out).2.2 | (with_reducible refine Kd.C_alloc ?_ _) | (with_reducible refine Kd.C_drewN ?_ _) | (with_reducible refine Kd.C_drew ?_))); (case side4 => exact (Kd.R_reads' HO318.out).2.1); rintro e w' ⟨rfl, ⟨nd, rfl⟩⟩; refine ⟨_, rfl, ?_⟩) | (go_at_call 41; (with_reducible refine (laws_sumOf.calls kj8 _ _ t292 t321 _ ?side1 ?side2 A38.out).mono ?_); (case side1 => repeat (first | exact (Kd.R_reads' HO_5.out).2.2 | (with_reducible refine Kd.C_alloc ?_ _) | (with_reducible refine Kd.C_drewN ?_ _) | (with_reducible refine Kd.C_drew ?_))); (case side2 => exact (Kd.R_reads' HO_5.out).2.1); rintro e w' ⟨rfl, ⟨nd, rfl⟩⟩))
                                  go_meet
                                  case rel => exact ⟨_, H', ⟨by have := HJ8.out; first | omega | exact Nat.le_refl _⟩, ⟨by repeat (first | (with_reducible first | exact HB.out | apply below_alloc | apply pw_below_drewN | apply below_drew1) | exact HB.out)⟩⟩
                              · as_aux_lemma =>
                                replace c37 := Bool.eq_false_iff.mpr c37
                                subst c37
                                have H1 : (laws_FnWeights.j1 kj8 l1) = some r := by rw [if_neg (show ¬ (false = true) by decide)] at H; exact H
                                clear H
                                have H := H1
                                clear H1
                                have H' := Aside0.mk H
                                clear H
                                go_wp2_with (first | ((with_reducible refine gate_callee (f := 39) rfl ?_); refine goesL_ (some 103) rfl rfl Try.func39 (by kernel_rfl) rfl #[.slice A1 l1.length c1] rfl (by (try simp only [List.map_toArray, List.map_cons, List.map_nil]); first | done | rfl | (simp only [List.length_drop, List.length_take]; rfl)) ?_; (with_reducible refine (laws_numberOf.calls kj8 _ _ l1 t308 _ ?side1 ?side2 A22.out).mono ?_); (case side1 => repeat (first | exact (Kd.C_below HR1.out HB.out) | (with_reducible refine Kd.C_alloc ?_ _) | (with_reducible refine Kd.C_drewN ?_ _) | (with_reducible refine Kd.C_drew ?_))); (case side2 => exact HC1.out); rintro e w' ⟨rfl, ⟨nd, rfl⟩⟩; refine ⟨_, rfl, ?_⟩) | ((with_reducible refine gate_callee (f := 48) rfl ?_); refine goesL_ (some 109) rfl rfl Try.func48 (by kernel_rfl) rfl #[.int .i64 (Int.tmod t308 (ji25))] rfl (by (try simp only [List.map_toArray, List.map_cons, List.map_nil]); first | done | (simp only [hji25]; rfl) | rfl | (simp only [List.length_drop, List.length_take]; rfl)) ?_; (with_reducible refine (impl_OfMask.calls kj8 (Int.tmod t308 (ji25)) t309 true _ A27.out).mono ?_); rintro e w48 ⟨v311, rfl, ho0, hb⟩; refine ⟨_, rfl, ?_⟩; have n0_ := Aside0.mk (Kd.R_elder' (by (with_reducible repeat (first | apply Kd.R_alloc | apply Kd.R_drewN | apply Kd.R_drew)); exact HO_5.out) (Kd.R_base ho0) hb); have n1_ := Aside0.mk (Kd.R_elder' (by (with_reducible repeat (first | apply Kd.R_alloc | apply Kd.R_drewN | apply Kd.R_drew)); exact HO_6.out) (Kd.R_base ho0) hb); have n2_ := Aside0.mk (Kd.R_lower (Kd.R_new' (Kd.R_new' ho0 (Kd.R_lt (by (with_reducible repeat (first | apply Kd.R_alloc | apply Kd.R_drewN | apply Kd.R_drew)); exact HO_5.out))) (Kd.R_lt (by (with_reducible repeat (first | apply Kd.R_alloc | apply Kd.R_drewN | apply Kd.R_drew)); exact HO_6.out))) (below_size (by repeat (first | (with_reducible first | exact HB.out | apply below_alloc | apply pw_below_drewN | apply below_drew1) | exact HB.out)))); have n3_ := Aside0.mk (below_step (by repeat (first | (with_reducible first | exact HB.out | apply below_alloc | apply pw_below_drewN | apply below_drew1) | exact HB.out)) hb); clear HO_5; clear HO_6; clear HB; have HO_5 := n0_; have HO_6 := n1_; have HO312 := n2_; have HB := n3_; clear n0_ n1_ n2_ n3_; (try clear hb); (try clear hb2); (try clear hk); (try clear hi); (try clear ho0); obtain ⟨Ao49, co49, eo49⟩ := Kd.R_slice HO312.out; subst eo49) | ((with_reducible refine gate_callee (f := 26) rfl ?_); refine goesL_ (some 115) rfl rfl Try.func26 (by kernel_rfl) rfl #[.slice Ao11 t292.length co11, .slice Ao49 t309.length co49] rfl (by (try simp only [List.map_toArray, List.map_cons, List.map_nil]); first | done | rfl | (simp only [List.length_drop, List.length_take]; rfl)) ?_; (with_reducible refine (impl_IsGreat.calls kj8 _ _ t292 _ _ t309 false true _ ?side1 ?side2 ?side3 ?side4 A28.out).mono ?_); (case side1 => repeat (first | exact (Kd.R_reads' HO_5.out).2.2 | (with_reducible refine Kd.C_alloc ?_ _) | (with_reducible refine Kd.C_drewN ?_ _) | (with_reducible refine Kd.C_drew ?_))); (case side2 => exact (Kd.R_reads' HO_5.out).2.1); (case side3 => repeat (first | exact (Kd.R_reads' HO312.out).2.2 | (with_reducible refine Kd.C_alloc ?_ _) | (with_reducible refine Kd.C_drewN ?_ _) | (with_reducible refine Kd.C_drew ?_))); (case side4 => exact (Kd.R_reads' HO312.out).2.1); rintro e w' ⟨rfl, ⟨nd, rfl⟩⟩; refine ⟨_, rfl, ?_⟩) | ((with_reducible refine gate_callee (f := 49) rfl ?_); refine goesL_ (some 121) rfl rfl Try.func49 (by kernel_rfl) rfl #[.slice Ao12 t293.length co12, .slice Ao49 t309.length co49] rfl (by (try simp only [List.map_toArray, List.map_cons, List.map_nil]); first | done | rfl | (simp only [List.length_drop, List.length_take]; rfl)) ?_; (with_reducible refine (impl_InBoth.calls kj8 _ _ t293 _ _ t309 t315 true _ ?side1 ?side2 ?side3 ?side4 A29.out).mono ?_); (case side1 => repeat (first | exact (Kd.R_reads' HO_6.out).2.2 | (with_reducible refine Kd.C_alloc ?_ _) | (with_reducible refine Kd.C_drewN ?_ _) | (with_reducible refine Kd.C_drew ?_))); (case side2 => exact (Kd.R_reads' HO_6.out).2.1); (case side3 => repeat (first | exact (Kd.R_reads' HO312.out).2.2 | (with_reducible refine Kd.C_alloc ?_ _) | (with_reducible refine Kd.C_drewN ?_ _) | (with_reducible refine Kd.C_drew ?_))); (case side4 => exact (Kd.R_reads' HO312.out).2.1); rintro e w50 ⟨v317, rfl, ho0, hb⟩; refine ⟨_, rfl, ?_⟩; have n0_ := Aside0.mk (Kd.R_elder' (by (with_reducible repeat (first | apply Kd.R_alloc | apply Kd.R_drewN | apply Kd.R_drew)); exact HO_5.out) (Kd.R_base ho0) hb); have n1_ := Aside0.mk (Kd.R_elder' (by (with_reducible repeat (first | apply Kd.R_alloc | apply Kd.R_drewN | apply Kd.R_drew)); exact HO_6.out) (Kd.R_base ho0) hb); have n2_ := Aside0.mk (Kd.R_elder' (by (with_reducible repeat (first | apply Kd.R_alloc | apply Kd.R_drewN | apply Kd.R_drew)); exact HO312.out) (Kd.R_base ho0) hb); have n3_ := Aside0.mk (Kd.R_lower (Kd.R_new' (Kd.R_new' (Kd.R_new' ho0 (Kd.R_lt (by (with_reducible repeat (first | apply Kd.R_alloc | apply Kd.R_drewN | apply Kd.R_drew)); exact HO_5.out))) (Kd.R_lt (by (with_reducible repeat (first | apply Kd.R_alloc | apply Kd.R_drewN | apply Kd.R_drew)); exact HO_6.out))) (Kd.R_lt (by (with_reducible repeat (first | apply Kd.R_alloc | apply Kd.R_drewN | apply Kd.R_drew)); exact HO312.out))) (below_size (by repeat (first | (with_reducible first | exact HB.out | apply below_alloc | apply pw_below_drewN | apply below_drew1) | exact HB.out)))); have n4_ := Aside0.mk (below_step (by repeat (first | (with_reducible first | exact HB.out | apply below_alloc | apply pw_below_drewN | apply below_drew1) | exact HB.out)) hb); clear HO_5; clear HO_6; clear HO312; clear HB; have HO_5 := n0_; have HO_6 := n1_; have HO312 := n2_; have HO318 := n3_; have HB := n4_; clear n0_ n1_ n2_ n3_ n4_; (try clear hb); (try clear hb2); (try clear hk); (try clear hi); (try clear ho0); obtain ⟨Ao51, co51, eo51⟩ := Kd.R_slice HO318.out; subst eo51) | ((with_reducible refine gate_callee (f := 22) rfl ?_); refine goesL_ (some 127) rfl rfl Try.func22 (by kernel_rfl) rfl #[.slice Ao11 t292.length co11, .slice Ao51 t315.length co51] rfl (by (try simp only [List.map_toArray, List.map_cons, List.map_nil]); first | done | rfl | (simp only [List.length_drop, List.length_take]; rfl)) ?_; (with_reducible refine (impl_WeightOf.calls kj8 _ _ t292 _ _ t315 t319 true _ ?side1 ?side2 ?side3 ?side4 A30.out).mono ?_); (case side1 => repeat (first | exact (Kd.R_reads' HO_5.out).2.2 | (with_reducible refine Kd.C_alloc ?_ _) | (with_reducible refine Kd.C_drewN ?_ _) | (with_reducible refine Kd.C_drew ?_))); (case side2 => exact (Kd.R_reads' HO_5.out).2.1); (case side3 => repeat (first | exact (Kd.R_reads' HO318.out).2.2 | (with_reducible refine Kd.C_alloc ?_ _) | (with_reducible refine Kd.C_drewN ?_ _) | (with_reducible refine Kd.C_drew ?_))); (case side4 => exact (Kd.R_reads' HO318.out).2.1); rintro e w' ⟨rfl, ⟨nd, rfl⟩⟩; refine ⟨_, rfl, ?_⟩))
                                go_meet
                                case rel => exact ⟨_, H', ⟨by have := HJ8.out; first | omega | exact Nat.le_refl _⟩, ⟨by repeat (first | (with_reducible first | exact HB.out | apply below_alloc | apply pw_below_drewN | apply below_drew1) | exact HB.out)⟩⟩
                            · as_aux_lemma =>
                              replace c36 := Bool.eq_false_iff.mpr c36
                              subst c36
                              have H1 : (laws_FnWeights.j1 kj8 l1) = some r := by rw [if_neg (show ¬ (false = true) by decide)] at H; exact H
                              clear H
                              have H := H1
                              clear H1
                              have H' := Aside0.mk H
                              clear H
                              go_wp2_with (first | ((with_reducible refine gate_callee (f := 39) rfl ?_); refine goesL_ (some 103) rfl rfl Try.func39 (by kernel_rfl) rfl #[.slice A1 l1.length c1] rfl (by (try simp only [List.map_toArray, List.map_cons, List.map_nil]); first | done | rfl | (simp only [List.length_drop, List.length_take]; rfl)) ?_; (with_reducible refine (laws_numberOf.calls kj8 _ _ l1 t308 _ ?side1 ?side2 A22.out).mono ?_); (case side1 => repeat (first | exact (Kd.C_below HR1.out HB.out) | (with_reducible refine Kd.C_alloc ?_ _) | (with_reducible refine Kd.C_drewN ?_ _) | (with_reducible refine Kd.C_drew ?_))); (case side2 => exact HC1.out); rintro e w' ⟨rfl, ⟨nd, rfl⟩⟩; refine ⟨_, rfl, ?_⟩) | ((with_reducible refine gate_callee (f := 48) rfl ?_); refine goesL_ (some 109) rfl rfl Try.func48 (by kernel_rfl) rfl #[.int .i64 (Int.tmod t308 (ji25))] rfl (by (try simp only [List.map_toArray, List.map_cons, List.map_nil]); first | done | (simp only [hji25]; rfl) | rfl | (simp only [List.length_drop, List.length_take]; rfl)) ?_; (with_reducible refine (impl_OfMask.calls kj8 (Int.tmod t308 (ji25)) t309 true _ A27.out).mono ?_); rintro e w52 ⟨v311, rfl, ho0, hb⟩; refine ⟨_, rfl, ?_⟩; have n0_ := Aside0.mk (Kd.R_elder' (by (with_reducible repeat (first | apply Kd.R_alloc | apply Kd.R_drewN | apply Kd.R_drew)); exact HO_5.out) (Kd.R_base ho0) hb); have n1_ := Aside0.mk (Kd.R_elder' (by (with_reducible repeat (first | apply Kd.R_alloc | apply Kd.R_drewN | apply Kd.R_drew)); exact HO_6.out) (Kd.R_base ho0) hb); have n2_ := Aside0.mk (Kd.R_lower (Kd.R_new' (Kd.R_new' ho0 (Kd.R_lt (by (with_reducible repeat (first | apply Kd.R_alloc | apply Kd.R_drewN | apply Kd.R_drew)); exact HO_5.out))) (Kd.R_lt (by (with_reducible repeat (first | apply Kd.R_alloc | apply Kd.R_drewN | apply Kd.R_drew)); exact HO_6.out))) (below_size (by repeat (first | (with_reducible first | exact HB.out | apply below_alloc | apply pw_below_drewN | apply below_drew1) | exact HB.out)))); have n3_ := Aside0.mk (below_step (by repeat (first | (with_reducible first | exact HB.out | apply below_alloc | apply pw_below_drewN | apply below_drew1) | exact HB.out)) hb); clear HO_5; clear HO_6; clear HB; have HO_5 := n0_; have HO_6 := n1_; have HO312 := n2_; have HB := n3_; clear n0_ n1_ n2_ n3_; (try clear hb); (try clear hb2); (try clear hk); (try clear hi); (try clear ho0); obtain ⟨Ao53, co53, eo53⟩ := Kd.R_slice HO312.out; subst eo53) | ((with_reducible refine gate_callee (f := 26) rfl ?_); refine goesL_ (some 115) rfl rfl Try.func26 (by kernel_rfl) rfl #[.slice Ao11 t292.length co11, .slice Ao53 t309.length co53] rfl (by (try simp only [List.map_toArray, List.map_cons, List.map_nil]); first | done | rfl | (simp only [List.length_drop, List.length_take]; rfl)) ?_; (with_reducible refine (impl_IsGreat.calls kj8 _ _ t292 _ _ t309 t313 true _ ?side1 ?side2 ?side3 ?side4 A28.out).mono ?_); (case side1 => repeat (first | exact (Kd.R_reads' HO_5.out).2.2 | (with_reducible refine Kd.C_alloc ?_ _) | (with_reducible refine Kd.C_drewN ?_ _) | (with_reducible refine Kd.C_drew ?_))); (case side2 => exact (Kd.R_reads' HO_5.out).2.1); (case side3 => repeat (first | exact (Kd.R_reads' HO312.out).2.2 | (with_reducible refine Kd.C_alloc ?_ _) | (with_reducible refine Kd.C_drewN ?_ _) | (with_reducible refine Kd.C_drew ?_))); (case side4 => exact (Kd.R_reads' HO312.out).2.1); rintro e w' ⟨rfl, ⟨nd, rfl⟩⟩; refine ⟨_, rfl, ?_⟩) | ((with_reducible refine gate_callee (f := 49) rfl ?_); refine goesL_ (some 121) rfl rfl Try.func49 (by kernel_rfl) rfl #[.slice Ao12 t293.length co12, .slice Ao53 t309.length co53] rfl (by (try simp only [List.map_toArray, List.map_cons, List.map_nil]); first | done | rfl | (simp only [List.length_drop, List.length_take]; rfl)) ?_; (with_reducible refine (impl_InBoth.calls kj8 _ _ t293 _ _ t309 t315 true _ ?side1 ?side2 ?side3 ?side4 A29.out).mono ?_); (case side1 => repeat (first | exact (Kd.R_reads' HO_6.out).2.2 | (with_reducible refine Kd.C_alloc ?_ _) | (with_reducible refine Kd.C_drewN ?_ _) | (with_reducible refine Kd.C_drew ?_))); (case side2 => exact (Kd.R_reads' HO_6.out).2.1); (case side3 => repeat (first | exact (Kd.R_reads' HO312.out).2.2 | (with_reducible refine Kd.C_alloc ?_ _) | (with_reducible refine Kd.C_drewN ?_ _) | (with_reducible refine Kd.C_drew ?_))); (case side4 => exact (Kd.R_reads' HO312.out).2.1); rintro e w54 ⟨v317, rfl, ho0, hb⟩; refine ⟨_, rfl, ?_⟩; have n0_ := Aside0.mk (Kd.R_elder' (by (with_reducible repeat (first | apply Kd.R_alloc | apply Kd.R_drewN | apply Kd.R_drew)); exact HO_5.out) (Kd.R_base ho0) hb); have n1_ := Aside0.mk (Kd.R_elder' (by (with_reducible repeat (first | apply Kd.R_alloc | apply Kd.R_drewN | apply Kd.R_drew)); exact HO_6.out) (Kd.R_base ho0) hb); have n2_ := Aside0.mk (Kd.R_elder' (by (with_reducible repeat (first | apply Kd.R_alloc | apply Kd.R_drewN | apply Kd.R_drew)); exact HO312.out) (Kd.R_base ho0) hb); have n3_ := Aside0.mk (Kd.R_lower (Kd.R_new' (Kd.R_new' (Kd.R_new' ho0 (Kd.R_lt (by (with_reducible repeat (first | apply Kd.R_alloc | apply Kd.R_drewN | apply Kd.R_drew)); exact HO_5.out))) (Kd.R_lt (by (with_reducible repeat (first | apply Kd.R_alloc | apply Kd.R_drewN | apply Kd.R_drew)); exact HO_6.out))) (Kd.R_lt (by (with_reducible repeat (first | apply Kd.R_alloc | apply Kd.R_drewN | apply Kd.R_drew)); exact HO312.out))) (below_size (by repeat (first | (with_reducible first | exact HB.out | apply below_alloc | apply pw_below_drewN | apply below_drew1) | exact HB.out)))); have n4_ := Aside0.mk (below_step (by repeat (first | (with_reducible first | exact HB.out | apply below_alloc | apply pw_below_drewN | apply below_drew1) | exact HB.out)) hb); clear HO_5; clear HO_6; clear HO312; clear HB; have HO_5 := n0_; have HO_6 := n1_; have HO312 := n2_; have HO318 := n3_; have HB := n4_; clear n0_ n1_ n2_ n3_ n4_; (try clear hb); (try clear hb2); (try clear hk); (try clear hi); (try clear ho0); obtain ⟨Ao55, co55, eo55⟩ := Kd.R_slice HO318.out; subst eo55) | ((with_reducible refine gate_callee (f := 22) rfl ?_); refine goesL_ (some 127) rfl rfl Try.func22 (by kernel_rfl) rfl #[.slice Ao11 t292.length co11, .slice Ao55 t315.length co55] rfl (by (try simp only [List.map_toArray, List.map_cons, List.map_nil]); first | done | rfl | (simp only [List.length_drop, List.length_take]; rfl)) ?_; (with_reducible refine (impl_WeightOf.calls kj8 _ _ t292 _ _ t315 t319 true _ ?side1 ?side2 ?side3 ?side4 A30.out).mono ?_); (case side1 => repeat (first | exact (Kd.R_reads' HO_5.out).2.2 | (with_reducible refine Kd.C_alloc ?_ _) | (with_reducible refine Kd.C_drewN ?_ _) | (with_reducible refine Kd.C_drew ?_))); (case side2 => exact (Kd.R_reads' HO_5.out).2.1); (case side3 => repeat (first | exact (Kd.R_reads' HO318.out).2.2 | (with_reducible refine Kd.C_alloc ?_ _) | (with_reducible refine Kd.C_drewN ?_ _) | (with_reducible refine Kd.C_drew ?_))); (case side4 => exact (Kd.R_reads' HO318.out).2.1); rintro e w' ⟨rfl, ⟨nd, rfl⟩⟩; refine ⟨_, rfl, ?_⟩))
                              go_meet
                              case rel => exact ⟨_, H', ⟨by have := HJ8.out; first | omega | exact Nat.le_refl _⟩, ⟨by repeat (first | (with_reducible first | exact HB.out | apply below_alloc | apply pw_below_drewN | apply below_drew1) | exact HB.out)⟩⟩
                          · as_aux_lemma =>
                            replace c35 := Bool.eq_false_iff.mpr c35
                            subst c35
                            have H1 : (some false) = some r := by rw [if_neg (show ¬ (false = true) by decide)] at H; exact H
                            clear H
                            have H := H1
                            clear H1
                            obtain rfl := Option.some.inj H
                            go_wp2_with (first | ((with_reducible refine gate_callee (f := 39) rfl ?_); refine goesL_ (some 103) rfl rfl Try.func39 (by kernel_rfl) rfl #[.slice A1 l1.length c1] rfl (by (try simp only [List.map_toArray, List.map_cons, List.map_nil]); first | done | rfl | (simp only [List.length_drop, List.length_take]; rfl)) ?_; (with_reducible refine (laws_numberOf.calls kj8 _ _ l1 t308 _ ?side1 ?side2 A22.out).mono ?_); (case side1 => repeat (first | exact (Kd.C_below HR1.out HB.out) | (with_reducible refine Kd.C_alloc ?_ _) | (with_reducible refine Kd.C_drewN ?_ _) | (with_reducible refine Kd.C_drew ?_))); (case side2 => exact HC1.out); rintro e w' ⟨rfl, ⟨nd, rfl⟩⟩; refine ⟨_, rfl, ?_⟩) | ((with_reducible refine gate_callee (f := 48) rfl ?_); refine goesL_ (some 109) rfl rfl Try.func48 (by kernel_rfl) rfl #[.int .i64 (Int.tmod t308 (ji25))] rfl (by (try simp only [List.map_toArray, List.map_cons, List.map_nil]); first | done | (simp only [hji25]; rfl) | rfl | (simp only [List.length_drop, List.length_take]; rfl)) ?_; (with_reducible refine (impl_OfMask.calls kj8 (Int.tmod t308 (ji25)) t309 true _ A27.out).mono ?_); rintro e w56 ⟨v311, rfl, ho0, hb⟩; refine ⟨_, rfl, ?_⟩; have n0_ := Aside0.mk (Kd.R_elder' (by (with_reducible repeat (first | apply Kd.R_alloc | apply Kd.R_drewN | apply Kd.R_drew)); exact HO_5.out) (Kd.R_base ho0) hb); have n1_ := Aside0.mk (Kd.R_elder' (by (with_reducible repeat (first | apply Kd.R_alloc | apply Kd.R_drewN | apply Kd.R_drew)); exact HO_6.out) (Kd.R_base ho0) hb); have n2_ := Aside0.mk (Kd.R_lower (Kd.R_new' (Kd.R_new' ho0 (Kd.R_lt (by (with_reducible repeat (first | apply Kd.R_alloc | apply Kd.R_drewN | apply Kd.R_drew)); exact HO_5.out))) (Kd.R_lt (by (with_reducible repeat (first | apply Kd.R_alloc | apply Kd.R_drewN | apply Kd.R_drew)); exact HO_6.out))) (below_size (by repeat (first | (with_reducible first | exact HB.out | apply below_alloc | apply pw_below_drewN | apply below_drew1) | exact HB.out)))); have n3_ := Aside0.mk (below_step (by repeat (first | (with_reducible first | exact HB.out | apply below_alloc | apply pw_below_drewN | apply below_drew1) | exact HB.out)) hb); clear HO_5; clear HO_6; clear HB; have HO_5 := n0_; have HO_6 := n1_; have HO312 := n2_; have HB := n3_; clear n0_ n1_ n2_ n3_; (try clear hb); (try clear hb2); (try clear hk); (try clear hi); (try clear ho0); obtain ⟨Ao57, co57, eo57⟩ := Kd.R_slice HO312.out; subst eo57) | ((with_reducible refine gate_callee (f := 26) rfl ?_); refine goesL_ (some 115) rfl rfl Try.func26 (by kernel_rfl) rfl #[.slice Ao11 t292.length co11, .slice Ao57 t309.length co57] rfl (by (try simp only [List.map_toArray, List.map_cons, List.map_nil]); first | done | rfl | (simp only [List.length_drop, List.length_take]; rfl)) ?_; (with_reducible refine (impl_IsGreat.calls kj8 _ _ t292 _ _ t309 t313 true _ ?side1 ?side2 ?side3 ?side4 A28.out).mono ?_); (case side1 => repeat (first | exact (Kd.R_reads' HO_5.out).2.2 | (with_reducible refine Kd.C_alloc ?_ _) | (with_reducible refine Kd.C_drewN ?_ _) | (with_reducible refine Kd.C_drew ?_))); (case side2 => exact (Kd.R_reads' HO_5.out).2.1); (case side3 => repeat (first | exact (Kd.R_reads' HO312.out).2.2 | (with_reducible refine Kd.C_alloc ?_ _) | (with_reducible refine Kd.C_drewN ?_ _) | (with_reducible refine Kd.C_drew ?_))); (case side4 => exact (Kd.R_reads' HO312.out).2.1); rintro e w' ⟨rfl, ⟨nd, rfl⟩⟩; refine ⟨_, rfl, ?_⟩) | ((with_reducible refine gate_callee (f := 49) rfl ?_); refine goesL_ (some 121) rfl rfl Try.func49 (by kernel_rfl) rfl #[.slice Ao12 t293.length co12, .slice Ao57 t309.length co57] rfl (by (try simp only [List.map_toArray, List.map_cons, List.map_nil]); first | done | rfl | (simp only [List.length_drop, List.length_take]; rfl)) ?_; (with_reducible refine (impl_InBoth.calls kj8 _ _ t293 _ _ t309 t315 true _ ?side1 ?side2 ?side3 ?side4 A29.out).mono ?_); (case side1 => repeat (first | exact (Kd.R_reads' HO_6.out).2.2 | (with_reducible refine Kd.C_alloc ?_ _) | (with_reducible refine Kd.C_drewN ?_ _) | (with_reducible refine Kd.C_drew ?_))); (case side2 => exact (Kd.R_reads' HO_6.out).2.1); (case side3 => repeat (first | exact (Kd.R_reads' HO312.out).2.2 | (with_reducible refine Kd.C_alloc ?_ _) | (with_reducible refine Kd.C_drewN ?_ _) | (with_reducible refine Kd.C_drew ?_))); (case side4 => exact (Kd.R_reads' HO312.out).2.1); rintro e w58 ⟨v317, rfl, ho0, hb⟩; refine ⟨_, rfl, ?_⟩; have n0_ := Aside0.mk (Kd.R_elder' (by (with_reducible repeat (first | apply Kd.R_alloc | apply Kd.R_drewN | apply Kd.R_drew)); exact HO_5.out) (Kd.R_base ho0) hb); have n1_ := Aside0.mk (Kd.R_elder' (by (with_reducible repeat (first | apply Kd.R_alloc | apply Kd.R_drewN | apply Kd.R_drew)); exact HO_6.out) (Kd.R_base ho0) hb); have n2_ := Aside0.mk (Kd.R_elder' (by (with_reducible repeat (first | apply Kd.R_alloc | apply Kd.R_drewN | apply Kd.R_drew)); exact HO312.out) (Kd.R_base ho0) hb); have n3_ := Aside0.mk (Kd.R_lower (Kd.R_new' (Kd.R_new' (Kd.R_new' ho0 (Kd.R_lt (by (with_reducible repeat (first | apply Kd.R_alloc | apply Kd.R_drewN | apply Kd.R_drew)); exact HO_5.out))) (Kd.R_lt (by (with_reducible repeat (first | apply Kd.R_alloc | apply Kd.R_drewN | apply Kd.R_drew)); exact HO_6.out))) (Kd.R_lt (by (with_reducible repeat (first | apply Kd.R_alloc | apply Kd.R_drewN | apply Kd.R_drew)); exact HO312.out))) (below_size (by repeat (first | (with_reducible first | exact HB.out | apply below_alloc | apply pw_below_drewN | apply below_drew1) | exact HB.out)))); have n4_ := Aside0.mk (below_step (by repeat (first | (with_reducible first | exact HB.out | apply below_alloc | apply pw_below_drewN | apply below_drew1) | exact HB.out)) hb); clear HO_5; clear HO_6; clear HO312; clear HB; have HO_5 := n0_; have HO_6 := n1_; have HO312 := n2_; have HO318 := n3_; have HB := n4_; clear n0_ n1_ n2_ n3_ n4_; (try clear hb); (try clear hb2); (try clear hk); (try clear hi); (try clear ho0); obtain ⟨Ao59, co59, eo59⟩ := Kd.R_slice HO318.out; subst eo59) | ((with_reducible refine gate_callee (f := 22) rfl ?_); refine goesL_ (some 127) rfl rfl Try.func22 (by kernel_rfl) rfl #[.slice Ao11 t292.length co11, .slice Ao59 t315.length co59] rfl (by (try simp only [List.map_toArray, List.map_cons, List.map_nil]); first | done | rfl | (simp only [List.length_drop, List.length_take]; rfl)) ?_; (with_reducible refine (impl_WeightOf.calls kj8 _ _ t292 _ _ t315 t319 false _ ?side1 ?side2 ?side3 ?side4 A30.out).mono ?_); (case side1 => repeat (first | exact (Kd.R_reads' HO_5.out).2.2 | (with_reducible refine Kd.C_alloc ?_ _) | (with_reducible refine Kd.C_drewN ?_ _) | (with_reducible refine Kd.C_drew ?_))); (case side2 => exact (Kd.R_reads' HO_5.out).2.1); (case side3 => repeat (first | exact (Kd.R_reads' HO318.out).2.2 | (with_reducible refine Kd.C_alloc ?_ _) | (with_reducible refine Kd.C_drewN ?_ _) | (with_reducible refine Kd.C_drew ?_))); (case side4 => exact (Kd.R_reads' HO318.out).2.1); rintro e w' ⟨rfl, ⟨nd, rfl⟩⟩; refine ⟨_, rfl, ?_⟩))
                            go_ret
                            exact ⟨by first | rfl | (simp [errW_none, errW_some] <;> rfl) | (simp only [← hji23, ← hji25]; first | rfl | (simp [errW_none, errW_some] <;> rfl)) | (simp [*, errW_none, errW_some] <;> rfl), by repeat (first | (with_reducible first | exact HB.out | apply below_alloc | apply pw_below_drewN | apply below_drew1) | exact HB.out)⟩
                        · as_aux_lemma =>
                          replace c34 := Bool.eq_false_iff.mpr c34
                          subst c34
                          have H1 : (some false) = some r := by rw [if_neg (show ¬ (false = true) by decide)] at H; exact H
                          clear H
                          have H := H1
                          clear H1
                          obtain rfl := Option.some.inj H
                          go_wp2_with (first | ((with_reducible refine gate_callee (f := 39) rfl ?_); refine goesL_ (some 103) rfl rfl Try.func39 (by kernel_rfl) rfl #[.slice A1 l1.length c1] rfl (by (try simp only [List.map_toArray, List.map_cons, List.map_nil]); first | done | rfl | (simp only [List.length_drop, List.length_take]; rfl)) ?_; (with_reducible refine (laws_numberOf.calls kj8 _ _ l1 t308 _ ?side1 ?side2 A22.out).mono ?_); (case side1 => repeat (first | exact (Kd.C_below HR1.out HB.out) | (with_reducible refine Kd.C_alloc ?_ _) | (with_reducible refine Kd.C_drewN ?_ _) | (with_reducible refine Kd.C_drew ?_))); (case side2 => exact HC1.out); rintro e w' ⟨rfl, ⟨nd, rfl⟩⟩; refine ⟨_, rfl, ?_⟩) | ((with_reducible refine gate_callee (f := 48) rfl ?_); refine goesL_ (some 109) rfl rfl Try.func48 (by kernel_rfl) rfl #[.int .i64 (Int.tmod t308 (ji25))] rfl (by (try simp only [List.map_toArray, List.map_cons, List.map_nil]); first | done | (simp only [hji25]; rfl) | rfl | (simp only [List.length_drop, List.length_take]; rfl)) ?_; (with_reducible refine (impl_OfMask.calls kj8 (Int.tmod t308 (ji25)) t309 true _ A27.out).mono ?_); rintro e w60 ⟨v311, rfl, ho0, hb⟩; refine ⟨_, rfl, ?_⟩; have n0_ := Aside0.mk (Kd.R_elder' (by (with_reducible repeat (first | apply Kd.R_alloc | apply Kd.R_drewN | apply Kd.R_drew)); exact HO_5.out) (Kd.R_base ho0) hb); have n1_ := Aside0.mk (Kd.R_elder' (by (with_reducible repeat (first | apply Kd.R_alloc | apply Kd.R_drewN | apply Kd.R_drew)); exact HO_6.out) (Kd.R_base ho0) hb); have n2_ := Aside0.mk (Kd.R_lower (Kd.R_new' (Kd.R_new' ho0 (Kd.R_lt (by (with_reducible repeat (first | apply Kd.R_alloc | apply Kd.R_drewN | apply Kd.R_drew)); exact HO_5.out))) (Kd.R_lt (by (with_reducible repeat (first | apply Kd.R_alloc | apply Kd.R_drewN | apply Kd.R_drew)); exact HO_6.out))) (below_size (by repeat (first | (with_reducible first | exact HB.out | apply below_alloc | apply pw_below_drewN | apply below_drew1) | exact HB.out)))); have n3_ := Aside0.mk (below_step (by repeat (first | (with_reducible first | exact HB.out | apply below_alloc | apply pw_below_drewN | apply below_drew1) | exact HB.out)) hb); clear HO_5; clear HO_6; clear HB; have HO_5 := n0_; have HO_6 := n1_; have HO312 := n2_; have HB := n3_; clear n0_ n1_ n2_ n3_; (try clear hb); (try clear hb2); (try clear hk); (try clear hi); (try clear ho0); obtain ⟨Ao61, co61, eo61⟩ := Kd.R_slice HO312.out; subst eo61) | ((with_reducible refine gate_callee (f := 26) rfl ?_); refine goesL_ (some 115) rfl rfl Try.func26 (by kernel_rfl) rfl #[.slice Ao11 t292.length co11, .slice Ao61 t309.length co61] rfl (by (try simp only [List.map_toArray, List.map_cons, List.map_nil]); first | done | rfl | (simp only [List.length_drop, List.length_take]; rfl)) ?_; (with_reducible refine (impl_IsGreat.calls kj8 _ _ t292 _ _ t309 t313 true _ ?side1 ?side2 ?side3 ?side4 A28.out).mono ?_); (case side1 => repeat (first | exact (Kd.R_reads' HO_5.out).2.2 | (with_reducible refine Kd.C_alloc ?_ _) | (with_reducible refine Kd.C_drewN ?_ _) | (with_reducible refine Kd.C_drew ?_))); (case side2 => exact (Kd.R_reads' HO_5.out).2.1); (case side3 => repeat (first | exact (Kd.R_reads' HO312.out).2.2 | (with_reducible refine Kd.C_alloc ?_ _) | (with_reducible refine Kd.C_drewN ?_ _) | (with_reducible refine Kd.C_drew ?_))); (case side4 => exact (Kd.R_reads' HO312.out).2.1); rintro e w' ⟨rfl, ⟨nd, rfl⟩⟩; refine ⟨_, rfl, ?_⟩) | ((with_reducible refine gate_callee (f := 49) rfl ?_); refine goesL_ (some 121) rfl rfl Try.func49 (by kernel_rfl) rfl #[.slice Ao12 t293.length co12, .slice Ao61 t309.length co61] rfl (by (try simp only [List.map_toArray, List.map_cons, List.map_nil]); first | done | rfl | (simp only [List.length_drop, List.length_take]; rfl)) ?_; (with_reducible refine (impl_InBoth.calls kj8 _ _ t293 _ _ t309 t315 false _ ?side1 ?side2 ?side3 ?side4 A29.out).mono ?_); (case side1 => repeat (first | exact (Kd.R_reads' HO_6.out).2.2 | (with_reducible refine Kd.C_alloc ?_ _) | (with_reducible refine Kd.C_drewN ?_ _) | (with_reducible refine Kd.C_drew ?_))); (case side2 => exact (Kd.R_reads' HO_6.out).2.1); (case side3 => repeat (first | exact (Kd.R_reads' HO312.out).2.2 | (with_reducible refine Kd.C_alloc ?_ _) | (with_reducible refine Kd.C_drewN ?_ _) | (with_reducible refine Kd.C_drew ?_))); (case side4 => exact (Kd.R_reads' HO312.out).2.1); rintro e w62 ⟨v317, rfl, ho0, hb⟩; refine ⟨_, rfl, ?_⟩; have n0_ := Aside0.mk (Kd.R_elder' (by (with_reducible repeat (first | apply Kd.R_alloc | apply Kd.R_drewN | apply Kd.R_drew)); exact HO_5.out) (Kd.R_base ho0) hb); have n1_ := Aside0.mk (Kd.R_elder' (by (with_reducible repeat (first | apply Kd.R_alloc | apply Kd.R_drewN | apply Kd.R_drew)); exact HO_6.out) (Kd.R_base ho0) hb); have n2_ := Aside0.mk (Kd.R_elder' (by (with_reducible repeat (first | apply Kd.R_alloc | apply Kd.R_drewN | apply Kd.R_drew)); exact HO312.out) (Kd.R_base ho0) hb); have n3_ := Aside0.mk (Kd.R_lower (Kd.R_new' (Kd.R_new' (Kd.R_new' ho0 (Kd.R_lt (by (with_reducible repeat (first | apply Kd.R_alloc | apply Kd.R_drewN | apply Kd.R_drew)); exact HO_5.out))) (Kd.R_lt (by (with_reducible repeat (first | apply Kd.R_alloc | apply Kd.R_drewN | apply Kd.R_drew)); exact HO_6.out))) (Kd.R_lt (by (with_reducible repeat (first | apply Kd.R_alloc | apply Kd.R_drewN | apply Kd.R_drew)); exact HO312.out))) (below_size (by repeat (first | (with_reducible first | exact HB.out | apply below_alloc | apply pw_below_drewN | apply below_drew1) | exact HB.out)))); have n4_ := Aside0.mk (below_step (by repeat (first | (with_reducible first | exact HB.out | apply below_alloc | apply pw_below_drewN | apply below_drew1) | exact HB.out)) hb); clear HO_5; clear HO_6; clear HO312; clear HB; have HO_5 := n0_; have HO_6 := n1_; have HO312 := n2_; have HO318 := n3_; have HB := n4_; clear n0_ n1_ n2_ n3_ n4_; (try clear hb); (try clear hb2); (try clear hk); (try clear hi); (try clear ho0); obtain ⟨Ao63, co63, eo63⟩ := Kd.R_slice HO318.out; subst eo63) | ((with_reducible refine gate_callee (f := 22) rfl ?_); refine goesL_ (some 127) rfl rfl Try.func22 (by kernel_rfl) rfl #[.slice Ao11 t292.length co11, .slice Ao63 t315.length co63] rfl (by (try simp only [List.map_toArray, List.map_cons, List.map_nil]); first | done | rfl | (simp only [List.length_drop, List.length_take]; rfl)) ?_; (with_reducible refine (impl_WeightOf.calls kj8 _ _ t292 _ _ t315 t319 t320 _ ?side1 ?side2 ?side3 ?side4 A30.out).mono ?_); (case side1 => repeat (first | exact (Kd.R_reads' HO_5.out).2.2 | (with_reducible refine Kd.C_alloc ?_ _) | (with_reducible refine Kd.C_drewN ?_ _) | (with_reducible refine Kd.C_drew ?_))); (case side2 => exact (Kd.R_reads' HO_5.out).2.1); (case side3 => repeat (first | exact (Kd.R_reads' HO318.out).2.2 | (with_reducible refine Kd.C_alloc ?_ _) | (with_reducible refine Kd.C_drewN ?_ _) | (with_reducible refine Kd.C_drew ?_))); (case side4 => exact (Kd.R_reads' HO318.out).2.1); rintro e w' ⟨rfl, ⟨nd, rfl⟩⟩; refine ⟨_, rfl, ?_⟩))
                          go_ret
                          exact ⟨by first | rfl | (simp [errW_none, errW_some] <;> rfl) | (simp only [← hji23, ← hji25]; first | rfl | (simp [errW_none, errW_some] <;> rfl)) | (simp [*, errW_none, errW_some] <;> rfl), by repeat (first | (with_reducible first | exact HB.out | apply below_alloc | apply pw_below_drewN | apply below_drew1) | exact HB.out)⟩
                      · as_aux_lemma =>
                        replace c33 := Bool.eq_false_iff.mpr c33
                        subst c33
                        have H1 : (some false) = some r := by rw [if_neg (show ¬ (false = true) by decide)] at H; exact H
                        clear H
                        have H := H1
                        clear H1
                        obtain rfl := Option.some.inj H
                        go_wp2_with (first | ((with_reducible refine gate_callee (f := 39) rfl ?_); refine goesL_ (some 103) rfl rfl Try.func39 (by kernel_rfl) rfl #[.slice A1 l1.length c1] rfl (by (try simp only [List.map_toArray, List.map_cons, List.map_nil]); first | done | rfl | (simp only [List.length_drop, List.length_take]; rfl)) ?_; (with_reducible refine (laws_numberOf.calls kj8 _ _ l1 t308 _ ?side1 ?side2 A22.out).mono ?_); (case side1 => repeat (first | exact (Kd.C_below HR1.out HB.out) | (with_reducible refine Kd.C_alloc ?_ _) | (with_reducible refine Kd.C_drewN ?_ _) | (with_reducible refine Kd.C_drew ?_))); (case side2 => exact HC1.out); rintro e w' ⟨rfl, ⟨nd, rfl⟩⟩; refine ⟨_, rfl, ?_⟩) | ((with_reducible refine gate_callee (f := 48) rfl ?_); refine goesL_ (some 109) rfl rfl Try.func48 (by kernel_rfl) rfl #[.int .i64 (Int.tmod t308 (ji25))] rfl (by (try simp only [List.map_toArray, List.map_cons, List.map_nil]); first | done | (simp only [hji25]; rfl) | rfl | (simp only [List.length_drop, List.length_take]; rfl)) ?_; (with_reducible refine (impl_OfMask.calls kj8 (Int.tmod t308 (ji25)) t309 true _ A27.out).mono ?_); rintro e w64 ⟨v311, rfl, ho0, hb⟩; refine ⟨_, rfl, ?_⟩; have n0_ := Aside0.mk (Kd.R_elder' (by (with_reducible repeat (first | apply Kd.R_alloc | apply Kd.R_drewN | apply Kd.R_drew)); exact HO_5.out) (Kd.R_base ho0) hb); have n1_ := Aside0.mk (Kd.R_elder' (by (with_reducible repeat (first | apply Kd.R_alloc | apply Kd.R_drewN | apply Kd.R_drew)); exact HO_6.out) (Kd.R_base ho0) hb); have n2_ := Aside0.mk (Kd.R_lower (Kd.R_new' (Kd.R_new' ho0 (Kd.R_lt (by (with_reducible repeat (first | apply Kd.R_alloc | apply Kd.R_drewN | apply Kd.R_drew)); exact HO_5.out))) (Kd.R_lt (by (with_reducible repeat (first | apply Kd.R_alloc | apply Kd.R_drewN | apply Kd.R_drew)); exact HO_6.out))) (below_size (by repeat (first | (with_reducible first | exact HB.out | apply below_alloc | apply pw_below_drewN | apply below_drew1) | exact HB.out)))); have n3_ := Aside0.mk (below_step (by repeat (first | (with_reducible first | exact HB.out | apply below_alloc | apply pw_below_drewN | apply below_drew1) | exact HB.out)) hb); clear HO_5; clear HO_6; clear HB; have HO_5 := n0_; have HO_6 := n1_; have HO312 := n2_; have HB := n3_; clear n0_ n1_ n2_ n3_; (try clear hb); (try clear hb2); (try clear hk); (try clear hi); (try clear ho0); obtain ⟨Ao65, co65, eo65⟩ := Kd.R_slice HO312.out; subst eo65) | ((with_reducible refine gate_callee (f := 26) rfl ?_); refine goesL_ (some 115) rfl rfl Try.func26 (by kernel_rfl) rfl #[.slice Ao11 t292.length co11, .slice Ao65 t309.length co65] rfl (by (try simp only [List.map_toArray, List.map_cons, List.map_nil]); first | done | rfl | (simp only [List.length_drop, List.length_take]; rfl)) ?_; (with_reducible refine (impl_IsGreat.calls kj8 _ _ t292 _ _ t309 t313 false _ ?side1 ?side2 ?side3 ?side4 A28.out).mono ?_); (case side1 => repeat (first | exact (Kd.R_reads' HO_5.out).2.2 | (with_reducible refine Kd.C_alloc ?_ _) | (with_reducible refine Kd.C_drewN ?_ _) | (with_reducible refine Kd.C_drew ?_))); (case side2 => exact (Kd.R_reads' HO_5.out).2.1); (case side3 => repeat (first | exact (Kd.R_reads' HO312.out).2.2 | (with_reducible refine Kd.C_alloc ?_ _) | (with_reducible refine Kd.C_drewN ?_ _) | (with_reducible refine Kd.C_drew ?_))); (case side4 => exact (Kd.R_reads' HO312.out).2.1); rintro e w' ⟨rfl, ⟨nd, rfl⟩⟩; refine ⟨_, rfl, ?_⟩) | ((with_reducible refine gate_callee (f := 49) rfl ?_); refine goesL_ (some 121) rfl rfl Try.func49 (by kernel_rfl) rfl #[.slice Ao12 t293.length co12, .slice Ao65 t309.length co65] rfl (by (try simp only [List.map_toArray, List.map_cons, List.map_nil]); first | done | rfl | (simp only [List.length_drop, List.length_take]; rfl)) ?_; (with_reducible refine (impl_InBoth.calls kj8 _ _ t293 _ _ t309 t315 t316 _ ?side1 ?side2 ?side3 ?side4 A29.out).mono ?_); (case side1 => repeat (first | exact (Kd.R_reads' HO_6.out).2.2 | (with_reducible refine Kd.C_alloc ?_ _) | (with_reducible refine Kd.C_drewN ?_ _) | (with_reducible refine Kd.C_drew ?_))); (case side2 => exact (Kd.R_reads' HO_6.out).2.1); (case side3 => repeat (first | exact (Kd.R_reads' HO312.out).2.2 | (with_reducible refine Kd.C_alloc ?_ _) | (with_reducible refine Kd.C_drewN ?_ _) | (with_reducible refine Kd.C_drew ?_))); (case side4 => exact (Kd.R_reads' HO312.out).2.1); rintro e w66 ⟨v317, rfl, ho0, hb⟩; refine ⟨_, rfl, ?_⟩; have n0_ := Aside0.mk (Kd.R_elder' (by (with_reducible repeat (first | apply Kd.R_alloc | apply Kd.R_drewN | apply Kd.R_drew)); exact HO_5.out) (Kd.R_base ho0) hb); have n1_ := Aside0.mk (Kd.R_elder' (by (with_reducible repeat (first | apply Kd.R_alloc | apply Kd.R_drewN | apply Kd.R_drew)); exact HO_6.out) (Kd.R_base ho0) hb); have n2_ := Aside0.mk (Kd.R_elder' (by (with_reducible repeat (first | apply Kd.R_alloc | apply Kd.R_drewN | apply Kd.R_drew)); exact HO312.out) (Kd.R_base ho0) hb); have n3_ := Aside0.mk (Kd.R_lower (Kd.R_new' (Kd.R_new' (Kd.R_new' ho0 (Kd.R_lt (by (with_reducible repeat (first | apply Kd.R_alloc | apply Kd.R_drewN | apply Kd.R_drew)); exact HO_5.out))) (Kd.R_lt (by (with_reducible repeat (first | apply Kd.R_alloc | apply Kd.R_drewN | apply Kd.R_drew)); exact HO_6.out))) (Kd.R_lt (by (with_reducible repeat (first | apply Kd.R_alloc | apply Kd.R_drewN | apply Kd.R_drew)); exact HO312.out))) (below_size (by repeat (first | (with_reducible first | exact HB.out | apply below_alloc | apply pw_below_drewN | apply below_drew1) | exact HB.out)))); have n4_ := Aside0.mk (below_step (by repeat (first | (with_reducible first | exact HB.out | apply below_alloc | apply pw_below_drewN | apply below_drew1) | exact HB.out)) hb); clear HO_5; clear HO_6; clear HO312; clear HB; have HO_5 := n0_; have HO_6 := n1_; have HO312 := n2_; have HO318 := n3_; have HB := n4_; clear n0_ n1_ n2_ n3_ n4_; (try clear hb); (try clear hb2); (try clear hk); (try clear hi); (try clear ho0); obtain ⟨Ao67, co67, eo67⟩ := Kd.R_slice HO318.out; subst eo67) | ((with_reducible refine gate_callee (f := 22) rfl ?_); refine goesL_ (some 127) rfl rfl Try.func22 (by kernel_rfl) rfl #[.slice Ao11 t292.length co11, .slice Ao67 t315.length co67] rfl (by (try simp only [List.map_toArray, List.map_cons, List.map_nil]); first | done | rfl | (simp only [List.length_drop, List.length_take]; rfl)) ?_; (with_reducible refine (impl_WeightOf.calls kj8 _ _ t292 _ _ t315 t319 t320 _ ?side1 ?side2 ?side3 ?side4 A30.out).mono ?_); (case side1 => repeat (first | exact (Kd.R_reads' HO_5.out).2.2 | (with_reducible refine Kd.C_alloc ?_ _) | (with_reducible refine Kd.C_drewN ?_ _) | (with_reducible refine Kd.C_drew ?_))); (case side2 => exact (Kd.R_reads' HO_5.out).2.1); (case side3 => repeat (first | exact (Kd.R_reads' HO318.out).2.2 | (with_reducible refine Kd.C_alloc ?_ _) | (with_reducible refine Kd.C_drewN ?_ _) | (with_reducible refine Kd.C_drew ?_))); (case side4 => exact (Kd.R_reads' HO318.out).2.1); rintro e w' ⟨rfl, ⟨nd, rfl⟩⟩; refine ⟨_, rfl, ?_⟩))
                        go_ret
                        exact ⟨by first | rfl | (simp [errW_none, errW_some] <;> rfl) | (simp only [← hji23, ← hji25]; first | rfl | (simp [errW_none, errW_some] <;> rfl)) | (simp [*, errW_none, errW_some] <;> rfl), by repeat (first | (with_reducible first | exact HB.out | apply below_alloc | apply pw_below_drewN | apply below_drew1) | exact HB.out)⟩
                    · as_aux_lemma =>
                      replace c32 := Bool.eq_false_iff.mpr c32
                      subst c32
                      have H1 : (some false) = some r := by rw [if_neg (show ¬ (false = true) by decide)] at H; exact H
                      clear H
                      have H := H1
                      clear H1
                      obtain rfl := Option.some.inj H
                      go_wp2_with (first | ((with_reducible refine gate_callee (f := 39) rfl ?_); refine goesL_ (some 103) rfl rfl Try.func39 (by kernel_rfl) rfl #[.slice A1 l1.length c1] rfl (by (try simp only [List.map_toArray, List.map_cons, List.map_nil]); first | done | rfl | (simp only [List.length_drop, List.length_take]; rfl)) ?_; (with_reducible refine (laws_numberOf.calls kj8 _ _ l1 t308 _ ?side1 ?side2 A22.out).mono ?_); (case side1 => repeat (first | exact (Kd.C_below HR1.out HB.out) | (with_reducible refine Kd.C_alloc ?_ _) | (with_reducible refine Kd.C_drewN ?_ _) | (with_reducible refine Kd.C_drew ?_))); (case side2 => exact HC1.out); rintro e w' ⟨rfl, ⟨nd, rfl⟩⟩; refine ⟨_, rfl, ?_⟩) | ((with_reducible refine gate_callee (f := 48) rfl ?_); refine goesL_ (some 109) rfl rfl Try.func48 (by kernel_rfl) rfl #[.int .i64 (Int.tmod t308 (ji25))] rfl (by (try simp only [List.map_toArray, List.map_cons, List.map_nil]); first | done | (simp only [hji25]; rfl) | rfl | (simp only [List.length_drop, List.length_take]; rfl)) ?_; (with_reducible refine (impl_OfMask.calls kj8 (Int.tmod t308 (ji25)) t309 false _ A27.out).mono ?_); rintro e w68 ⟨v311, rfl, ho0, hb⟩; refine ⟨_, rfl, ?_⟩; have n0_ := Aside0.mk (Kd.R_elder' (by (with_reducible repeat (first | apply Kd.R_alloc | apply Kd.R_drewN | apply Kd.R_drew)); exact HO_5.out) (Kd.R_base ho0) hb); have n1_ := Aside0.mk (Kd.R_elder' (by (with_reducible repeat (first | apply Kd.R_alloc | apply Kd.R_drewN | apply Kd.R_drew)); exact HO_6.out) (Kd.R_base ho0) hb); have n2_ := Aside0.mk (Kd.R_lower (Kd.R_new' (Kd.R_new' ho0 (Kd.R_lt (by (with_reducible repeat (first | apply Kd.R_alloc | apply Kd.R_drewN | apply Kd.R_drew)); exact HO_5.out))) (Kd.R_lt (by (with_reducible repeat (first | apply Kd.R_alloc | apply Kd.R_drewN | apply Kd.R_drew)); exact HO_6.out))) (below_size (by repeat (first | (with_reducible first | exact HB.out | apply below_alloc | apply pw_below_drewN | apply below_drew1) | exact HB.out)))); have n3_ := Aside0.mk (below_step (by repeat (first | (with_reducible first | exact HB.out | apply below_alloc | apply pw_below_drewN | apply below_drew1) | exact HB.out)) hb); clear HO_5; clear HO_6; clear HB; have HO_5 := n0_; have HO_6 := n1_; have HO312 := n2_; have HB := n3_; clear n0_ n1_ n2_ n3_; (try clear hb); (try clear hb2); (try clear hk); (try clear hi); (try clear ho0); obtain ⟨Ao69, co69, eo69⟩ := Kd.R_slice HO312.out; subst eo69) | ((with_reducible refine gate_callee (f := 26) rfl ?_); refine goesL_ (some 115) rfl rfl Try.func26 (by kernel_rfl) rfl #[.slice Ao11 t292.length co11, .slice Ao69 t309.length co69] rfl (by (try simp only [List.map_toArray, List.map_cons, List.map_nil]); first | done | rfl | (simp only [List.length_drop, List.length_take]; rfl)) ?_; (with_reducible refine (impl_IsGreat.calls kj8 _ _ t292 _ _ t309 t313 t314 _ ?side1 ?side2 ?side3 ?side4 A28.out).mono ?_); (case side1 => repeat (first | exact (Kd.R_reads' HO_5.out).2.2 | (with_reducible refine Kd.C_alloc ?_ _) | (with_reducible refine Kd.C_drewN ?_ _) | (with_reducible refine Kd.C_drew ?_))); (case side2 => exact (Kd.R_reads' HO_5.out).2.1); (case side3 => repeat (first | exact (Kd.R_reads' HO312.out).2.2 | (with_reducible refine Kd.C_alloc ?_ _) | (with_reducible refine Kd.C_drewN ?_ _) | (with_reducible refine Kd.C_drew ?_))); (case side4 => exact (Kd.R_reads' HO312.out).2.1); rintro e w' ⟨rfl, ⟨nd, rfl⟩⟩; refine ⟨_, rfl, ?_⟩) | ((with_reducible refine gate_callee (f := 49) rfl ?_); refine goesL_ (some 121) rfl rfl Try.func49 (by kernel_rfl) rfl #[.slice Ao12 t293.length co12, .slice Ao69 t309.length co69] rfl (by (try simp only [List.map_toArray, List.map_cons, List.map_nil]); first | done | rfl | (simp only [List.length_drop, List.length_take]; rfl)) ?_; (with_reducible refine (impl_InBoth.calls kj8 _ _ t293 _ _ t309 t315 t316 _ ?side1 ?side2 ?side3 ?side4 A29.out).mono ?_); (case side1 => repeat (first | exact (Kd.R_reads' HO_6.out).2.2 | (with_reducible refine Kd.C_alloc ?_ _) | (with_reducible refine Kd.C_drewN ?_ _) | (with_reducible refine Kd.C_drew ?_))); (case side2 => exact (Kd.R_reads' HO_6.out).2.1); (case side3 => repeat (first | exact (Kd.R_reads' HO312.out).2.2 | (with_reducible refine Kd.C_alloc ?_ _) | (with_reducible refine Kd.C_drewN ?_ _) | (with_reducible refine Kd.C_drew ?_))); (case side4 => exact (Kd.R_reads' HO312.out).2.1); rintro e w70 ⟨v317, rfl, ho0, hb⟩; refine ⟨_, rfl, ?_⟩; have n0_ := Aside0.mk (Kd.R_elder' (by (with_reducible repeat (first | apply Kd.R_alloc | apply Kd.R_drewN | apply Kd.R_drew)); exact HO_5.out) (Kd.R_base ho0) hb); have n1_ := Aside0.mk (Kd.R_elder' (by (with_reducible repeat (first | apply Kd.R_alloc | apply Kd.R_drewN | apply Kd.R_drew)); exact HO_6.out) (Kd.R_base ho0) hb); have n2_ := Aside0.mk (Kd.R_elder' (by (with_reducible repeat (first | apply Kd.R_alloc | apply Kd.R_drewN | apply Kd.R_drew)); exact HO312.out) (Kd.R_base ho0) hb); have n3_ := Aside0.mk (Kd.R_lower (Kd.R_new' (Kd.R_new' (Kd.R_new' ho0 (Kd.R_lt (by (with_reducible repeat (first | apply Kd.R_alloc | apply Kd.R_drewN | apply Kd.R_drew)); exact HO_5.out))) (Kd.R_lt (by (with_reducible repeat (first | apply Kd.R_alloc | apply Kd.R_drewN | apply Kd.R_drew)); exact HO_6.out))) (Kd.R_lt (by (with_reducible repeat (first | apply Kd.R_alloc | apply Kd.R_drewN | apply Kd.R_drew)); exact HO312.out))) (below_size (by repeat (first | (with_reducible first | exact HB.out | apply below_alloc | apply pw_below_drewN | apply below_drew1) | exact HB.out)))); have n4_ := Aside0.mk (below_step (by repeat (first | (with_reducible first | exact HB.out | apply below_alloc | apply pw_below_drewN | apply below_drew1) | exact HB.out)) hb); clear HO_5; clear HO_6; clear HO312; clear HB; have HO_5 := n0_; have HO_6 := n1_; have HO312 := n2_; have HO318 := n3_; have HB := n4_; clear n0_ n1_ n2_ n3_ n4_; (try clear hb); (try clear hb2); (try clear hk); (try clear hi); (try clear ho0); obtain ⟨Ao71, co71, eo71⟩ := Kd.R_slice HO318.out; subst eo71) | ((with_reducible refine gate_callee (f := 22) rfl ?_); refine goesL_ (some 127) rfl rfl Try.func22 (by kernel_rfl) rfl #[.slice Ao11 t292.length co11, .slice Ao71 t315.length co71] rfl (by (try simp only [List.map_toArray, List.map_cons, List.map_nil]); first | done | rfl | (simp only [List.length_drop, List.length_take]; rfl)) ?_; (with_reducible refine (impl_WeightOf.calls kj8 _ _ t292 _ _ t315 t319 t320 _ ?side1 ?side2 ?side3 ?side4 A30.out).mono ?_); (case side1 => repeat (first | exact (Kd.R_reads' HO_5.out).2.2 | (with_reducible refine Kd.C_alloc ?_ _) | (with_reducible refine Kd.C_drewN ?_ _) | (with_reducible refine Kd.C_drew ?_))); (case side2 => exact (Kd.R_reads' HO_5.out).2.1); (case side3 => repeat (first | exact (Kd.R_reads' HO318.out).2.2 | (with_reducible refine Kd.C_alloc ?_ _) | (with_reducible refine Kd.C_drewN ?_ _) | (with_reducible refine Kd.C_drew ?_))); (case side4 => exact (Kd.R_reads' HO318.out).2.1); rintro e w' ⟨rfl, ⟨nd, rfl⟩⟩; refine ⟨_, rfl, ?_⟩))
                      go_ret
                      exact ⟨by first | rfl | (simp [errW_none, errW_some] <;> rfl) | (simp only [← hji23, ← hji25]; first | rfl | (simp [errW_none, errW_some] <;> rfl)) | (simp [*, errW_none, errW_some] <;> rfl), by repeat (first | (with_reducible first | exact HB.out | apply below_alloc | apply pw_below_drewN | apply below_drew1) | exact HB.out)⟩
                  · as_aux_lemma =>
                    replace c31 := Bool.eq_false_iff.mpr c31
                    subst c31
                    have H1 : (some false) = some r := by rw [if_neg (show ¬ (false = true) by decide)] at H; exact H
                    clear H
                    have H := H1
                    clear H1
                    obtain rfl := Option.some.inj H
                    go_wp2_with (first | ((with_reducible refine gate_callee (f := 39) rfl ?_); refine goesL_ (some 103) rfl rfl Try.func39 (by kernel_rfl) rfl #[.slice A1 l1.length c1] rfl (by (try simp only [List.map_toArray, List.map_cons, List.map_nil]); first | done | rfl | (simp only [List.length_drop, List.length_take]; rfl)) ?_; (with_reducible refine (laws_numberOf.calls kj8 _ _ l1 t308 _ ?side1 ?side2 A22.out).mono ?_); (case side1 => repeat (first | exact (Kd.C_below HR1.out HB.out) | (with_reducible refine Kd.C_alloc ?_ _) | (with_reducible refine Kd.C_drewN ?_ _) | (with_reducible refine Kd.C_drew ?_))); (case side2 => exact HC1.out); rintro e w' ⟨rfl, ⟨nd, rfl⟩⟩; refine ⟨_, rfl, ?_⟩) | ((with_reducible refine gate_callee (f := 48) rfl ?_); refine goesL_ (some 109) rfl rfl Try.func48 (by kernel_rfl) rfl #[.int .i64 (Int.tmod t308 (ji25))] rfl (by (try simp only [List.map_toArray, List.map_cons, List.map_nil]); first | done | (simp only [hji25]; rfl) | rfl | (simp only [List.length_drop, List.length_take]; rfl)) ?_; (with_reducible refine (impl_OfMask.calls kj8 (Int.tmod t308 (ji25)) t309 t310 _ A27.out).mono ?_); rintro e w72 ⟨v311, rfl, ho0, hb⟩; refine ⟨_, rfl, ?_⟩; have n0_ := Aside0.mk (Kd.R_elder' (by (with_reducible repeat (first | apply Kd.R_alloc | apply Kd.R_drewN | apply Kd.R_drew)); exact HO_5.out) (Kd.R_base ho0) hb); have n1_ := Aside0.mk (Kd.R_elder' (by (with_reducible repeat (first | apply Kd.R_alloc | apply Kd.R_drewN | apply Kd.R_drew)); exact HO_6.out) (Kd.R_base ho0) hb); have n2_ := Aside0.mk (Kd.R_lower (Kd.R_new' (Kd.R_new' ho0 (Kd.R_lt (by (with_reducible repeat (first | apply Kd.R_alloc | apply Kd.R_drewN | apply Kd.R_drew)); exact HO_5.out))) (Kd.R_lt (by (with_reducible repeat (first | apply Kd.R_alloc | apply Kd.R_drewN | apply Kd.R_drew)); exact HO_6.out))) (below_size (by repeat (first | (with_reducible first | exact HB.out | apply below_alloc | apply pw_below_drewN | apply below_drew1) | exact HB.out)))); have n3_ := Aside0.mk (below_step (by repeat (first | (with_reducible first | exact HB.out | apply below_alloc | apply pw_below_drewN | apply below_drew1) | exact HB.out)) hb); clear HO_5; clear HO_6; clear HB; have HO_5 := n0_; have HO_6 := n1_; have HO312 := n2_; have HB := n3_; clear n0_ n1_ n2_ n3_; (try clear hb); (try clear hb2); (try clear hk); (try clear hi); (try clear ho0); obtain ⟨Ao73, co73, eo73⟩ := Kd.R_slice HO312.out; subst eo73) | ((with_reducible refine gate_callee (f := 26) rfl ?_); refine goesL_ (some 115) rfl rfl Try.func26 (by kernel_rfl) rfl #[.slice Ao11 t292.length co11, .slice Ao73 t309.length co73] rfl (by (try simp only [List.map_toArray, List.map_cons, List.map_nil]); first | done | rfl | (simp only [List.length_drop, List.length_take]; rfl)) ?_; (with_reducible refine (impl_IsGreat.calls kj8 _ _ t292 _ _ t309 t313 t314 _ ?side1 ?side2 ?side3 ?side4 A28.out).mono ?_); (case side1 => repeat (first | exact (Kd.R_reads' HO_5.out).2.2 | (with_reducible refine Kd.C_alloc ?_ _) | (with_reducible refine Kd.C_drewN ?_ _) | (with_reducible refine Kd.C_drew ?_))); (case side2 => exact (Kd.R_reads' HO_5.out).2.1); (case side3 => repeat (first | exact (Kd.R_reads' HO312.out).2.2 | (with_reducible refine Kd.C_alloc ?_ _) | (with_reducible refine Kd.C_drewN ?_ _) | (with_reducible refine Kd.C_drew ?_))); (case side4 => exact (Kd.R_reads' HO312.out).2.1); rintro e w' ⟨rfl, ⟨nd, rfl⟩⟩; refine ⟨_, rfl, ?_⟩) | ((with_reducible refine gate_callee (f := 49) rfl ?_); refine goesL_ (some 121) rfl rfl Try.func49 (by kernel_rfl) rfl #[.slice Ao12 t293.length co12, .slice Ao73 t309.length co73] rfl (by (try simp only [List.map_toArray, List.map_cons, List.map_nil]); first | done | rfl | (simp only [List.length_drop, List.length_take]; rfl)) ?_; (with_reducible refine (impl_InBoth.calls kj8 _ _ t293 _ _ t309 t315 t316 _ ?side1 ?side2 ?side3 ?side4 A29.out).mono ?_); (case side1 => repeat (first | exact (Kd.R_reads' HO_6.out).2.2 | (with_reducible refine Kd.C_alloc ?_ _) | (with_reducible refine Kd.C_drewN ?_ _) | (with_reducible refine Kd.C_drew ?_))); (case side2 => exact (Kd.R_reads' HO_6.out).2.1); (case side3 => repeat (first | exact (Kd.R_reads' HO312.out).2.2 | (with_reducible refine Kd.C_alloc ?_ _) | (with_reducible refine Kd.C_drewN ?_ _) | (with_reducible refine Kd.C_drew ?_))); (case side4 => exact (Kd.R_reads' HO312.out).2.1); rintro e w74 ⟨v317, rfl, ho0, hb⟩; refine ⟨_, rfl, ?_⟩; have n0_ := Aside0.mk (Kd.R_elder' (by (with_reducible repeat (first | apply Kd.R_alloc | apply Kd.R_drewN | apply Kd.R_drew)); exact HO_5.out) (Kd.R_base ho0) hb); have n1_ := Aside0.mk (Kd.R_elder' (by (with_reducible repeat (first | apply Kd.R_alloc | apply Kd.R_drewN | apply Kd.R_drew)); exact HO_6.out) (Kd.R_base ho0) hb); have n2_ := Aside0.mk (Kd.R_elder' (by (with_reducible repeat (first | apply Kd.R_alloc | apply Kd.R_drewN | apply Kd.R_drew)); exact HO312.out) (Kd.R_base ho0) hb); have n3_ := Aside0.mk (Kd.R_lower (Kd.R_new' (Kd.R_new' (Kd.R_new' ho0 (Kd.R_lt (by (with_reducible repeat (first | apply Kd.R_alloc | apply Kd.R_drewN | apply Kd.R_drew)); exact HO_5.out))) (Kd.R_lt (by (with_reducible repeat (first | apply Kd.R_alloc | apply Kd.R_drewN | apply Kd.R_drew)); exact HO_6.out))) (Kd.R_lt (by (with_reducible repeat (first | apply Kd.R_alloc | apply Kd.R_drewN | apply Kd.R_drew)); exact HO312.out))) (below_size (by repeat (first | (with_reducible first | exact HB.out | apply below_alloc | apply pw_below_drewN | apply below_drew1) | exact HB.out)))); have n4_ := Aside0.mk (below_step (by repeat (first | (with_reducible first | exact HB.out | apply below_alloc | apply pw_below_drewN | apply below_drew1) | exact HB.out)) hb); clear HO_5; clear HO_6; clear HO312; clear HB; have HO_5 := n0_; have HO_6 := n1_; have HO312 := n2_; have HO318 := n3_; have HB := n4_; clear n0_ n1_ n2_ n3_ n4_; (try clear hb); (try clear hb2); (try clear hk); (try clear hi); (try clear ho0); obtain ⟨Ao75, co75, eo75⟩ := Kd.R_slice HO318.out; subst eo75) | ((with_reducible refine gate_callee (f := 22) rfl ?_); refine goesL_ (some 127) rfl rfl Try.func22 (by kernel_rfl) rfl #[.slice Ao11 t292.length co11, .slice Ao75 t315.length co75] rfl (by (try simp only [List.map_toArray, List.map_cons, List.map_nil]); first | done | rfl | (simp only [List.length_drop, List.length_take]; rfl)) ?_; (with_reducible refine (impl_WeightOf.calls kj8 _ _ t292 _ _ t315 t319 t320 _ ?side1 ?side2 ?side3 ?side4 A30.out).mono ?_); (case side1 => repeat (first | exact (Kd.R_reads' HO_5.out).2.2 | (with_reducible refine Kd.C_alloc ?_ _) | (with_reducible refine Kd.C_drewN ?_ _) | (with_reducible refine Kd.C_drew ?_))); (case side2 => exact (Kd.R_reads' HO_5.out).2.1); (case side3 => repeat (first | exact (Kd.R_reads' HO318.out).2.2 | (with_reducible refine Kd.C_alloc ?_ _) | (with_reducible refine Kd.C_drewN ?_ _) | (with_reducible refine Kd.C_drew ?_))); (case side4 => exact (Kd.R_reads' HO318.out).2.1); rintro e w' ⟨rfl, ⟨nd, rfl⟩⟩; refine ⟨_, rfl, ?_⟩))
                    go_ret
                    exact ⟨by first | rfl | (simp [errW_none, errW_some] <;> rfl) | (simp only [← hji23, ← hji25]; first | rfl | (simp [errW_none, errW_some] <;> rfl)) | (simp [*, errW_none, errW_some] <;> rfl), by repeat (first | (with_reducible first | exact HB.out | apply below_alloc | apply pw_below_drewN | apply below_drew1) | exact HB.out)⟩
              · as_aux_lemma =>
                rw [if_neg c24] at H
                exact absurd H (by simp)
            · as_aux_lemma =>
              replace c21 := Bool.eq_false_iff.mpr c21
              subst c21
              have H1 : (laws_FnWeights.j1 kj8 l1) = some r := by rw [if_neg (show ¬ (false = true) by decide)] at H; exact H
              clear H
              have H := H1
              clear H1
              have H' := Aside0.mk H
              clear H
              go_wp2
              go_meet
              case rel => exact ⟨_, H', ⟨by have := HJ8.out; first | omega | exact Nat.le_refl _⟩, ⟨by repeat (first | (with_reducible first | exact HB.out | apply below_alloc | apply pw_below_drewN | apply below_drew1) | exact HB.out)⟩⟩
          case rest =>
            clear HC20
            try clear c1
            try clear c2
            try clear p2
            try clear c3
            try clear c3b0
            try clear c4
            try clear p6
            try clear c13
            try clear c13b0
            try clear c13b1
            try clear c13b2
            try clear c14
            try clear c14b0
            try clear c14b1
            try clear c14b2
            try clear c15
            try clear c15b0
            try clear c15b1
            try clear c15b2
            try clear c16
            try clear c16b0
            try clear c16b1
            try clear c19
            try clear c21
            try clear c22
            try clear c24
            try clear c24b0
            try clear c24b1
            try clear c25
            try clear c26
            try clear c26b0
            try clear c26b1
            try clear c31
            try clear c32
            try clear c33
            try clear c34
            try clear c35
            try clear c36
            try clear c37
            try clear c39
            try clear c39b0
            try clear c47
            try clear c48
            try clear c49
            try clear p64
            try clear p2
            try clear p6
            obtain ⟨kq, HA, HJ19, HB⟩ := hcut
            cases kq with
            | zero => exact absurd HA.out (by simp [laws_FnWeights.j1])
            | succ kj19 =>
              have H := HA.out
              clear HA
              simp only [laws_FnWeights.j1] at H
              replace H := Option.bind_eq_some_iff.mp H
              obtain ⟨t322, A760, H⟩ := H
              replace H : ((impl_LeastShared.f kj19 t322).bind fun bt325 => ((spec_LeastShared.f kj19 t322).bind fun bt327 => (if (bt325.2 != bt327.2) = true then (laws_FnWeights.j2 kj19 l1 true) else (if bt325.1 = bt327.1 then (if bt325.2 = true then ((laws_sumOf.f kj19 t322).bind fun t329 => (laws_FnWeights.j2 kj19 l1 (decide ((wrap64 (3 * bt325.1)) < t329)))) else (laws_FnWeights.j2 kj19 l1 false)) else (laws_FnWeights.j2 kj19 l1 true))))) = some r := H
              have A76 := Aside0.mk A760
              clear A760
              replace H := Option.bind_eq_some_iff.mp H
              obtain ⟨⟨t325, t326⟩, A770, H⟩ := H
              replace H : ((spec_LeastShared.f kj19 t322).bind fun bt327 => (if (t326 != bt327.2) = true then (laws_FnWeights.j2 kj19 l1 true) else (if t325 = bt327.1 then (if t326 = true then ((laws_sumOf.f kj19 t322).bind fun t329 => (laws_FnWeights.j2 kj19 l1 (decide ((wrap64 (3 * t325)) < t329)))) else (laws_FnWeights.j2 kj19 l1 false)) else (laws_FnWeights.j2 kj19 l1 true)))) = some r := H
              have A77 := Aside0.mk A770
              clear A770
              replace H := Option.bind_eq_some_iff.mp H
              obtain ⟨⟨t327, t328⟩, A780, H⟩ := H
              replace H : (if (t326 != t328) = true then (laws_FnWeights.j2 kj19 l1 true) else (if t325 = t327 then (if t326 = true then ((laws_sumOf.f kj19 t322).bind fun t329 => (laws_FnWeights.j2 kj19 l1 (decide ((wrap64 (3 * t325)) < t329)))) else (laws_FnWeights.j2 kj19 l1 false)) else (laws_FnWeights.j2 kj19 l1 true))) = some r := H
              have A78 := Aside0.mk A780
              clear A780
              have HC79 := Aside0.mk H
              clear H
              go_upto_region 20 with (first | ((with_reducible refine gate_callee (f := 50) rfl ?_); refine goesL_ (some 162) rfl rfl Try.func50 (by kernel_rfl) rfl #[.slice A1 l1.length c1] rfl (by (try simp only [List.map_toArray, List.map_cons, List.map_nil]); first | done | rfl | (simp only [List.length_drop, List.length_take]; rfl)) ?_; (with_reducible refine (spec_DrawLeastShared.calls kj19 _ _ l1 t322 _ ?side1 ?side2 A76.out).mono ?_); (case side1 => repeat (first | exact (Kd.C_below HR1.out HB.out) | (with_reducible refine Kd.C_alloc ?_ _) | (with_reducible refine Kd.C_drewN ?_ _) | (with_reducible refine Kd.C_drew ?_))); (case side2 => exact HC1.out); rintro e w80 ⟨v323, rfl, ho0, hb⟩; refine ⟨_, rfl, ?_⟩; have n0_ := Aside0.mk (Kd.R_lower ho0 (below_size (by repeat (first | (with_reducible first | exact HB.out | apply below_alloc | apply pw_below_drewN | apply below_drew1) | exact HB.out)))); have n1_ := Aside0.mk (below_step (by repeat (first | (with_reducible first | exact HB.out | apply below_alloc | apply pw_below_drewN | apply below_drew1) | exact HB.out)) hb); clear HB; have HO324 := n0_; have HB := n1_; clear n0_ n1_; (try clear hb); (try clear hb2); (try clear hk); (try clear hi); (try clear ho0); obtain ⟨Ao81, co81, eo81⟩ := Kd.R_slice HO324.out; subst eo81) | ((with_reducible refine gate_callee (f := 34) rfl ?_); refine goesL_ (some 165) rfl rfl Try.func34 (by kernel_rfl) rfl #[.slice Ao81 t322.length co81] rfl (by (try simp only [List.map_toArray, List.map_cons, List.map_nil]); first | done | rfl | (simp only [List.length_drop, List.length_take]; rfl)) ?_; (with_reducible refine (impl_LeastShared.calls kj19 _ _ t322 t325 t326 _ ?side1 ?side2 A77.out).mono ?_); (case side1 => repeat (first | exact (Kd.R_reads' HO324.out).2.2 | (with_reducible refine Kd.C_alloc ?_ _) | (with_reducible refine Kd.C_drewN ?_ _) | (with_reducible refine Kd.C_drew ?_))); (case side2 => exact (Kd.R_reads' HO324.out).2.1); rintro e w82 ⟨rfl, hb⟩; refine ⟨_, rfl, ?_⟩; have n0_ := Aside0.mk (Kd.R_below (by (with_reducible repeat (first | apply Kd.R_alloc | apply Kd.R_drewN | apply Kd.R_drew)); exact HO324.out) hb); have n1_ := Aside0.mk (below_step (by repeat (first | (with_reducible first | exact HB.out | apply below_alloc | apply pw_below_drewN | apply below_drew1) | exact HB.out)) hb); clear HO324; clear HB; have HO324 := n0_; have HB := n1_; clear n0_ n1_; (try clear hb); (try clear hb2); (try clear hk); (try clear hi)) | ((with_reducible refine gate_callee (f := 33) rfl ?_); refine goesL_ (some 170) rfl rfl Try.func33 (by kernel_rfl) rfl #[.slice Ao81 t322.length co81] rfl (by (try simp only [List.map_toArray, List.map_cons, List.map_nil]); first | done | rfl | (simp only [List.length_drop, List.length_take]; rfl)) ?_; (with_reducible refine (spec_LeastShared.calls kj19 _ _ t322 t327 t328 _ ?side1 ?side2 A78.out).mono ?_); (case side1 => repeat (first | exact (Kd.R_reads' HO324.out).2.2 | (with_reducible refine Kd.C_alloc ?_ _) | (with_reducible refine Kd.C_drewN ?_ _) | (with_reducible refine Kd.C_drew ?_))); (case side2 => exact (Kd.R_reads' HO324.out).2.1); rintro e w83 ⟨rfl, hb⟩; refine ⟨_, rfl, ?_⟩; have n0_ := Aside0.mk (Kd.R_below (by (with_reducible repeat (first | apply Kd.R_alloc | apply Kd.R_drewN | apply Kd.R_drew)); exact HO324.out) hb); have n1_ := Aside0.mk (below_step (by repeat (first | (with_reducible first | exact HB.out | apply below_alloc | apply pw_below_drewN | apply below_drew1) | exact HB.out)) hb); clear HO324; clear HB; have HO324 := n0_; have HB := n1_; clear n0_ n1_; (try clear hb); (try clear hb2); (try clear hk); (try clear hi)))
              (try simp only [Act.put, List.setIfInBounds_toArray, List.set_cons_zero, List.set_cons_succ])
              go_cut [190] (fun v190 wc => ∃ (kq : Nat) (x190_78 : Bool), v190 = .bool x190_78 ∧ Aside0 (laws_FnWeights.j2 kq l1 x190_78 = some r) ∧ Aside0 (kq ≤ kj19) ∧ Aside0 (Below w.heap.size w wc))
              case first =>
                have H := HC79.out
                clear HC79
                by_cases c84 : (t326 != t328) = true
                · as_aux_lemma =>
                  rw [if_pos c84] at H
                  have c84b0 : (t326 != t328) = true := c84
                  (try (have c84b1 : decide (t326 = t328) = false := by simpa using c84))
                  (try (have c84b2 : (t326 == t328) = false := by simpa using c84))
                  (try (have c84b3 : ¬ (t326 = t328) := by simpa using c84))
                  clear c84
                  (first | rw [c84b0] | (simp only [i64_w, i32_w]; rw [c84b0]) | skip)
                  have H' := Aside0.mk H
                  clear H
                  go_wp2
                  go_meet
                  case rel => exact ⟨_, (true), (by first | rfl | (simp; done) | (simp [*]; done)), H', ⟨by have := HJ8.out; have := HJ19.out; first | omega | exact Nat.le_refl _⟩, ⟨by repeat (first | (with_reducible first | exact HB.out | apply below_alloc | apply pw_below_drewN | apply below_drew1) | exact HB.out)⟩⟩
                · as_aux_lemma =>
                  rw [if_neg c84] at H
                  have c84b0 : (t326 != t328) = false := by simpa using c84
                  (try (have c84b1 : decide (t326 = t328) = true := by simpa using c84))
                  (try (have c84b2 : (t326 == t328) = true := by simpa using c84))
                  clear c84
                  (first | rw [c84b0] | (simp only [i64_w, i32_w]; rw [c84b0]) | skip)
                  by_cases c85 : t325 = t327
                  · as_aux_lemma =>
                    rw [if_pos c85] at H
                    have c85b0 : (t325 == t327) = true := beq_iff_eq.mpr c85
                    have c85b1 : (t325 != t327) = false := bne_eq_false_iff_eq.mpr c85
                    clear c85
                    by_cases c86 : t326 = true
                    · as_aux_lemma =>
                      subst c86
                      have H1 : ((laws_sumOf.f kj19 t322).bind fun t329 => (laws_FnWeights.j2 kj19 l1 (decide ((wrap64 (3 * t325)) < t329)))) = some r := by rw [if_pos rfl] at H; exact H
                      clear H
                      have H := H1
                      clear H1
                      replace H := Option.bind_eq_some_iff.mp H
                      obtain ⟨t329, A870, H⟩ := H
                      replace H : (laws_FnWeights.j2 kj19 l1 (decide ((wrap64 (3 * t325)) < t329))) = some r := H
                      have A87 := Aside0.mk A870
                      clear A870
                      have H' := Aside0.mk H
                      clear H
                      go_wp2_with (first | (go_at_call 41; (with_reducible refine (laws_sumOf.calls kj19 _ _ t322 t329 _ ?side1 ?side2 A87.out).mono ?_); (case side1 => repeat (first | exact (Kd.R_reads' HO324.out).2.2 | (with_reducible refine Kd.C_alloc ?_ _) | (with_reducible refine Kd.C_drewN ?_ _) | (with_reducible refine Kd.C_drew ?_))); (case side2 => exact (Kd.R_reads' HO324.out).2.1); rintro e w' ⟨rfl, ⟨nd, rfl⟩⟩))
                      go_meet
                      case rel => exact ⟨_, (decide ((wrap64 (3 * t325)) < t329)), (by first | rfl | (simp; done) | (simp [*]; done)), H', ⟨by have := HJ8.out; have := HJ19.out; first | omega | exact Nat.le_refl _⟩, ⟨by repeat (first | (with_reducible first | exact HB.out | apply below_alloc | apply pw_below_drewN | apply below_drew1) | exact HB.out)⟩⟩
                    · as_aux_lemma =>
                      replace c86 := Bool.eq_false_iff.mpr c86
                      subst c86
                      have H1 : (laws_FnWeights.j2 kj19 l1 false) = some r := by rw [if_neg (show ¬ (false = true) by decide)] at H; exact H
                      clear H
                      have H := H1
                      clear H1
                      have H' := Aside0.mk H
                      clear H
                      go_wp2
                      go_meet
                      case rel => exact ⟨_, (false), (by first | rfl | (simp; done) | (simp [*]; done)), H', ⟨by have := HJ8.out; have := HJ19.out; first | omega | exact Nat.le_refl _⟩, ⟨by repeat (first | (with_reducible first | exact HB.out | apply below_alloc | apply pw_below_drewN | apply below_drew1) | exact HB.out)⟩⟩
                  · as_aux_lemma =>
                    rw [if_neg c85] at H
                    have c85b0 : (t325 == t327) = false := beq_eq_false_iff_ne.mpr c85
                    have c85b1 : (t325 != t327) = true := bne_iff_ne.mpr c85
                    have H' := Aside0.mk H
                    clear H
                    go_wp2
                    go_meet
                    case rel => exact ⟨_, (true), (by first | rfl | (simp; done) | (simp [*]; done)), H', ⟨by have := HJ8.out; have := HJ19.out; first | omega | exact Nat.le_refl _⟩, ⟨by repeat (first | (with_reducible first | exact HB.out | apply below_alloc | apply pw_below_drewN | apply below_drew1) | exact HB.out)⟩⟩
              case rest =>
                clear HC79
                try clear c1
                try clear c2
                try clear p2
                try clear c3
                try clear c3b0
                try clear c4
                try clear c5
                try clear p6
                try clear c8
                try clear c13
                try clear c13b0
                try clear c13b1
                try clear c13b2
                try clear c14
                try clear c14b0
                try clear c14b1
                try clear c14b2
                try clear c15
                try clear c15b0
                try clear c15b1
                try clear c15b2
                try clear c16
                try clear c16b0
                try clear c16b1
                try clear c19
                try clear c21
                try clear c22
                try clear c24
                try clear c24b0
                try clear c24b1
                try clear c25
                try clear c26
                try clear c26b0
                try clear c26b1
                try clear c31
                try clear c32
                try clear c33
                try clear c34
                try clear c35
                try clear c36
                try clear c37
                try clear c39
                try clear c39b0
                try clear c47
                try clear c48
                try clear c49
                try clear c50
                try clear p64
                try clear c84
                try clear c84b0
                try clear c84b1
                try clear c84b2
                try clear c85
                try clear c85b0
                try clear c85b1
                try clear c86
                try clear p2
                try clear p6
                try clear p64
                obtain ⟨kq, x190_78, rfl, HA, HJ78, HB⟩ := hcut
                cases kq with
                | zero => exact absurd HA.out (by simp [laws_FnWeights.j2])
                | succ kj78 =>
                  have H := HA.out
                  clear HA
                  simp only [laws_FnWeights.j2] at H
                  by_cases c88 : x190_78 = true
                  · as_aux_lemma =>
                    subst c88
                    have H1 : (some false) = some r := by rw [if_pos rfl] at H; exact H
                    clear H
                    have H := H1
                    clear H1
                    obtain rfl := Option.some.inj H
                    go_wp2
                    go_ret
                    exact ⟨by first | rfl | (simp [errW_none, errW_some] <;> rfl) | (simp [*, errW_none, errW_some] <;> rfl), by repeat (first | (with_reducible first | exact HB.out | apply below_alloc | apply pw_below_drewN | apply below_drew1) | exact HB.out)⟩
                  · as_aux_lemma =>
                    replace c88 := Bool.eq_false_iff.mpr c88
                    subst c88
                    have H1 : ((spec_DrawOfMask.f l1).bind fun t330 => ((impl_OfMask.f kj78 t330).bind fun bt331 => ((spec_OfMask.f kj78 t330).bind fun bt335 => ((spec_DrawMaskOf.f kj78 l1).bind fun t339 => ((impl_MaskOf.f kj78 t339).bind fun bt342 => ((spec_MaskOf.f kj78 t339).bind fun bt344 => (if (bt331.2 != bt335.2) = true then (laws_FnWeights.j3 kj78 t330 bt331.1 bt331.2 true) else ((laws_sameInts.f kj78 bt331.1 bt335.1).bind fun t346 => (if t346 = true then (if (bt342.2 != bt344.2) = true then (laws_FnWeights.j3 kj78 t330 bt331.1 bt331.2 true) else (laws_FnWeights.j3 kj78 t330 bt331.1 bt331.2 (bt342.1 != bt344.1))) else (laws_FnWeights.j3 kj78 t330 bt331.1 bt331.2 true)))))))))) = some r := by rw [if_neg (show ¬ (false = true) by decide)] at H; exact H
                    clear H
                    have H := H1
                    clear H1
                    replace H := Option.bind_eq_some_iff.mp H
                    obtain ⟨t330, A890, H⟩ := H
                    replace H : ((impl_OfMask.f kj78 t330).bind fun bt331 => ((spec_OfMask.f kj78 t330).bind fun bt335 => ((spec_DrawMaskOf.f kj78 l1).bind fun t339 => ((impl_MaskOf.f kj78 t339).bind fun bt342 => ((spec_MaskOf.f kj78 t339).bind fun bt344 => (if (bt331.2 != bt335.2) = true then (laws_FnWeights.j3 kj78 t330 bt331.1 bt331.2 true) else ((laws_sameInts.f kj78 bt331.1 bt335.1).bind fun t346 => (if t346 = true then (if (bt342.2 != bt344.2) = true then (laws_FnWeights.j3 kj78 t330 bt331.1 bt331.2 true) else (laws_FnWeights.j3 kj78 t330 bt331.1 bt331.2 (bt342.1 != bt344.1))) else (laws_FnWeights.j3 kj78 t330 bt331.1 bt331.2 true))))))))) = some r := H
                    have A89 := Aside0.mk A890
                    clear A890
                    replace H := Option.bind_eq_some_iff.mp H
                    obtain ⟨⟨t331, t332⟩, A900, H⟩ := H
                    replace H : ((spec_OfMask.f kj78 t330).bind fun bt335 => ((spec_DrawMaskOf.f kj78 l1).bind fun t339 => ((impl_MaskOf.f kj78 t339).bind fun bt342 => ((spec_MaskOf.f kj78 t339).bind fun bt344 => (if (t332 != bt335.2) = true then (laws_FnWeights.j3 kj78 t330 t331 t332 true) else ((laws_sameInts.f kj78 t331 bt335.1).bind fun t346 => (if t346 = true then (if (bt342.2 != bt344.2) = true then (laws_FnWeights.j3 kj78 t330 t331 t332 true) else (laws_FnWeights.j3 kj78 t330 t331 t332 (bt342.1 != bt344.1))) else (laws_FnWeights.j3 kj78 t330 t331 t332 true)))))))) = some r := H
                    have A90 := Aside0.mk A900
                    clear A900
                    replace H := Option.bind_eq_some_iff.mp H
                    obtain ⟨⟨t335, t336⟩, A910, H⟩ := H
                    replace H : ((spec_DrawMaskOf.f kj78 l1).bind fun t339 => ((impl_MaskOf.f kj78 t339).bind fun bt342 => ((spec_MaskOf.f kj78 t339).bind fun bt344 => (if (t332 != t336) = true then (laws_FnWeights.j3 kj78 t330 t331 t332 true) else ((laws_sameInts.f kj78 t331 t335).bind fun t346 => (if t346 = true then (if (bt342.2 != bt344.2) = true then (laws_FnWeights.j3 kj78 t330 t331 t332 true) else (laws_FnWeights.j3 kj78 t330 t331 t332 (bt342.1 != bt344.1))) else (laws_FnWeights.j3 kj78 t330 t331 t332 true))))))) = some r := H
                    have A91 := Aside0.mk A910
                    clear A910
                    replace H := Option.bind_eq_some_iff.mp H
                    obtain ⟨t339, A920, H⟩ := H
                    replace H : ((impl_MaskOf.f kj78 t339).bind fun bt342 => ((spec_MaskOf.f kj78 t339).bind fun bt344 => (if (t332 != t336) = true then (laws_FnWeights.j3 kj78 t330 t331 t332 true) else ((laws_sameInts.f kj78 t331 t335).bind fun t346 => (if t346 = true then (if (bt342.2 != bt344.2) = true then (laws_FnWeights.j3 kj78 t330 t331 t332 true) else (laws_FnWeights.j3 kj78 t330 t331 t332 (bt342.1 != bt344.1))) else (laws_FnWeights.j3 kj78 t330 t331 t332 true)))))) = some r := H
                    have A92 := Aside0.mk A920
                    clear A920
                    replace H := Option.bind_eq_some_iff.mp H
                    obtain ⟨⟨t342, t343⟩, A930, H⟩ := H
                    replace H : ((spec_MaskOf.f kj78 t339).bind fun bt344 => (if (t332 != t336) = true then (laws_FnWeights.j3 kj78 t330 t331 t332 true) else ((laws_sameInts.f kj78 t331 t335).bind fun t346 => (if t346 = true then (if (t343 != bt344.2) = true then (laws_FnWeights.j3 kj78 t330 t331 t332 true) else (laws_FnWeights.j3 kj78 t330 t331 t332 (t342 != bt344.1))) else (laws_FnWeights.j3 kj78 t330 t331 t332 true))))) = some r := H
                    have A93 := Aside0.mk A930
                    clear A930
                    replace H := Option.bind_eq_some_iff.mp H
                    obtain ⟨⟨t344, t345⟩, A940, H⟩ := H
                    replace H : (if (t332 != t336) = true then (laws_FnWeights.j3 kj78 t330 t331 t332 true) else ((laws_sameInts.f kj78 t331 t335).bind fun t346 => (if t346 = true then (if (t343 != t345) = true then (laws_FnWeights.j3 kj78 t330 t331 t332 true) else (laws_FnWeights.j3 kj78 t330 t331 t332 (t342 != t344))) else (laws_FnWeights.j3 kj78 t330 t331 t332 true)))) = some r := H
                    have A94 := Aside0.mk A940
                    clear A940
                    have HC95 := Aside0.mk H
                    clear H
                    go_upto_region 28 with (first | ((with_reducible refine gate_callee (f := 51) rfl ?_); refine goesL_ (some 192) rfl rfl Try.func51 (by kernel_rfl) rfl #[.slice A1 l1.length c1] rfl (by (try simp only [List.map_toArray, List.map_cons, List.map_nil]); first | done | rfl | (simp only [List.length_drop, List.length_take]; rfl)) ?_; (with_reducible refine (spec_DrawOfMask.calls _ _ l1 t330 _ ?side1 ?side2 A89.out).mono ?_); (case side1 => repeat (first | exact (Kd.C_below HR1.out HB.out) | (with_reducible refine Kd.C_alloc ?_ _) | (with_reducible refine Kd.C_drewN ?_ _) | (with_reducible refine Kd.C_drew ?_))); (case side2 => exact HC1.out); rintro e w96 ⟨rfl, hb⟩; refine ⟨_, rfl, ?_⟩; have n0_ := Aside0.mk (below_step (by repeat (first | (with_reducible first | exact HB.out | apply below_alloc | apply pw_below_drewN | apply below_drew1) | exact HB.out)) hb); clear HB; have HB := n0_; clear n0_; (try clear hb); (try clear hb2); (try clear hk); (try clear hi)) | ((with_reducible refine gate_callee (f := 48) rfl ?_); refine goesL_ (some 195) rfl rfl Try.func48 (by kernel_rfl) rfl #[.int .i64 t330] rfl (by (try simp only [List.map_toArray, List.map_cons, List.map_nil]); first | done | rfl | (simp only [List.length_drop, List.length_take]; rfl)) ?_; (with_reducible refine (impl_OfMask.calls kj78 t330 t331 t332 _ A90.out).mono ?_); rintro e w97 ⟨v333, rfl, ho0, hb⟩; refine ⟨_, rfl, ?_⟩; have n0_ := Aside0.mk (Kd.R_lower ho0 (below_size (by repeat (first | (with_reducible first | exact HB.out | apply below_alloc | apply pw_below_drewN | apply below_drew1) | exact HB.out)))); have n1_ := Aside0.mk (below_step (by repeat (first | (with_reducible first | exact HB.out | apply below_alloc | apply pw_below_drewN | apply below_drew1) | exact HB.out)) hb); clear HB; have HO334 := n0_; have HB := n1_; clear n0_ n1_; (try clear hb); (try clear hb2); (try clear hk); (try clear hi); (try clear ho0)) | ((with_reducible refine gate_callee (f := 52) rfl ?_); refine goesL_ (some 200) rfl rfl Try.func52 (by kernel_rfl) rfl #[.int .i64 t330] rfl (by (try simp only [List.map_toArray, List.map_cons, List.map_nil]); first | done | rfl | (simp only [List.length_drop, List.length_take]; rfl)) ?_; (with_reducible refine (spec_OfMask.calls kj78 t330 t335 t336 _ A91.out).mono ?_); rintro e w98 ⟨v337, rfl, ho0, hb⟩; refine ⟨_, rfl, ?_⟩; have n0_ := Aside0.mk (Kd.R_elder' (by (with_reducible repeat (first | apply Kd.R_alloc | apply Kd.R_drewN | apply Kd.R_drew)); exact HO334.out) (Kd.R_base ho0) hb); have n1_ := Aside0.mk (Kd.R_lower (Kd.R_new' ho0 (Kd.R_lt (by (with_reducible repeat (first | apply Kd.R_alloc | apply Kd.R_drewN | apply Kd.R_drew)); exact HO334.out))) (below_size (by repeat (first | (with_reducible first | exact HB.out | apply below_alloc | apply pw_below_drewN | apply below_drew1) | exact HB.out)))); have n2_ := Aside0.mk (below_step (by repeat (first | (with_reducible first | exact HB.out | apply below_alloc | apply pw_below_drewN | apply below_drew1) | exact HB.out)) hb); clear HO334; clear HB; have HO334 := n0_; have HO338 := n1_; have HB := n2_; clear n0_ n1_ n2_; (try clear hb); (try clear hb2); (try clear hk); (try clear hi); (try clear ho0)) | ((with_reducible refine gate_callee (f := 53) rfl ?_); refine goesL_ (some 204) rfl rfl Try.func53 (by kernel_rfl) rfl #[.slice A1 l1.length c1] rfl (by (try simp only [List.map_toArray, List.map_cons, List.map_nil]); first | done | rfl | (simp only [List.length_drop, List.length_take]; rfl)) ?_; (with_reducible refine (spec_DrawMaskOf.calls kj78 _ _ l1 t339 _ ?side1 ?side2 A92.out).mono ?_); (case side1 => repeat (first | exact (Kd.C_below HR1.out HB.out) | (with_reducible refine Kd.C_alloc ?_ _) | (with_reducible refine Kd.C_drewN ?_ _) | (with_reducible refine Kd.C_drew ?_))); (case side2 => exact HC1.out); rintro e w99 ⟨v340, rfl, ho0, hb⟩; refine ⟨_, rfl, ?_⟩; have n0_ := Aside0.mk (Kd.R_elder' (by (with_reducible repeat (first | apply Kd.R_alloc | apply Kd.R_drewN | apply Kd.R_drew)); exact HO334.out) (Kd.R_base ho0) hb); have n1_ := Aside0.mk (Kd.R_elder' (by (with_reducible repeat (first | apply Kd.R_alloc | apply Kd.R_drewN | apply Kd.R_drew)); exact HO338.out) (Kd.R_base ho0) hb); have n2_ := Aside0.mk (Kd.R_lower (Kd.R_new' (Kd.R_new' ho0 (Kd.R_lt (by (with_reducible repeat (first | apply Kd.R_alloc | apply Kd.R_drewN | apply Kd.R_drew)); exact HO334.out))) (Kd.R_lt (by (with_reducible repeat (first | apply Kd.R_alloc | apply Kd.R_drewN | apply Kd.R_drew)); exact HO338.out))) (below_size (by repeat (first | (with_reducible first | exact HB.out | apply below_alloc | apply pw_below_drewN | apply below_drew1) | exact HB.out)))); have n3_ := Aside0.mk (below_step (by repeat (first | (with_reducible first | exact HB.out | apply below_alloc | apply pw_below_drewN | apply below_drew1) | exact HB.out)) hb); clear HO334; clear HO338; clear HB; have HO334 := n0_; have HO338 := n1_; have HO341 := n2_; have HB := n3_; clear n0_ n1_ n2_ n3_; (try clear hb); (try clear hb2); (try clear hk); (try clear hi); (try clear ho0); obtain ⟨Ao100, co100, eo100⟩ := Kd.R_slice HO341.out; subst eo100) | ((with_reducible refine gate_callee (f := 54) rfl ?_); refine goesL_ (some 207) rfl rfl Try.func54 (by kernel_rfl) rfl #[.slice Ao100 t339.length co100] rfl (by (try simp only [List.map_toArray, List.map_cons, List.map_nil]); first | done | rfl | (simp only [List.length_drop, List.length_take]; rfl)) ?_; (with_reducible refine (impl_MaskOf.calls kj78 _ _ t339 t342 t343 _ ?side1 ?side2 A93.out).mono ?_); (case side1 => repeat (first | exact (Kd.R_reads' HO341.out).2.2 | (with_reducible refine Kd.C_alloc ?_ _) | (with_reducible refine Kd.C_drewN ?_ _) | (with_reducible refine Kd.C_drew ?_))); (case side2 => exact (Kd.R_reads' HO341.out).2.1); rintro e w' ⟨rfl, ⟨nd, rfl⟩⟩; refine ⟨_, rfl, ?_⟩) | ((with_reducible refine gate_callee (f := 55) rfl ?_); refine goesL_ (some 212) rfl rfl Try.func55 (by kernel_rfl) rfl #[.slice Ao100 t339.length co100] rfl (by (try simp only [List.map_toArray, List.map_cons, List.map_nil]); first | done | rfl | (simp only [List.length_drop, List.length_take]; rfl)) ?_; (with_reducible refine (spec_MaskOf.calls kj78 _ _ t339 t344 t345 _ ?side1 ?side2 A94.out).mono ?_); (case side1 => repeat (first | exact (Kd.R_reads' HO341.out).2.2 | (with_reducible refine Kd.C_alloc ?_ _) | (with_reducible refine Kd.C_drewN ?_ _) | (with_reducible refine Kd.C_drew ?_))); (case side2 => exact (Kd.R_reads' HO341.out).2.1); rintro e w' ⟨rfl, ⟨nd, rfl⟩⟩; refine ⟨_, rfl, ?_⟩))
                    (try simp only [Act.put, List.setIfInBounds_toArray, List.set_cons_zero, List.set_cons_succ])
                    go_cut [233] (fun v233 wc => ∃ (kq : Nat) (x233_94 : Bool), v233 = .bool x233_94 ∧ Aside0 (laws_FnWeights.j3 kq t330 t331 t332 x233_94 = some r) ∧ Aside0 (kq ≤ kj78) ∧ Aside0 (Kd.R (Kd.int .i64) 3 wc w.heap.size (fun _ => True) v333 t331) ∧ Aside0 (Below w.heap.size w wc))
                    case first =>
                      have H := HC95.out
                      clear HC95
                      by_cases c101 : (t332 != t336) = true
                      · as_aux_lemma =>
                        rw [if_pos c101] at H
                        have c101b0 : (t332 != t336) = true := c101
                        (try (have c101b1 : decide (t332 = t336) = false := by simpa using c101))
                        (try (have c101b2 : (t332 == t336) = false := by simpa using c101))
                        (try (have c101b3 : ¬ (t332 = t336) := by simpa using c101))
                        clear c101
                        (first | rw [c101b0] | (simp only [i64_w, i32_w]; rw [c101b0]) | skip)
                        have H' := Aside0.mk H
                        clear H
                        go_wp2
                        go_meet
                        case rel => exact ⟨_, (true), (by first | rfl | (simp; done) | (simp [*]; done)), H', ⟨by have := HJ8.out; have := HJ19.out; have := HJ78.out; first | omega | exact Nat.le_refl _⟩, ⟨by (with_reducible repeat (first | apply Kd.R_alloc | apply Kd.R_drewN | apply Kd.R_drew)); exact Kd.R_mono HO334.out (fun _ hk => trivial)⟩, ⟨by repeat (first | (with_reducible first | exact HB.out | apply below_alloc | apply pw_below_drewN | apply below_drew1) | exact HB.out)⟩⟩
                      · as_aux_lemma =>
                        rw [if_neg c101] at H
                        have c101b0 : (t332 != t336) = false := by simpa using c101
                        (try (have c101b1 : decide (t332 = t336) = true := by simpa using c101))
                        (try (have c101b2 : (t332 == t336) = true := by simpa using c101))
                        clear c101
                        (first | rw [c101b0] | (simp only [i64_w, i32_w]; rw [c101b0]) | skip)
                        replace H := Option.bind_eq_some_iff.mp H
                        obtain ⟨t346, A1020, H⟩ := H
                        replace H : (if t346 = true then (if (t343 != t345) = true then (laws_FnWeights.j3 kj78 t330 t331 t332 true) else (laws_FnWeights.j3 kj78 t330 t331 t332 (t342 != t344))) else (laws_FnWeights.j3 kj78 t330 t331 t332 true)) = some r := H
                        have A102 := Aside0.mk A1020
                        clear A1020
                        by_cases c103 : t346 = true
                        · as_aux_lemma =>
                          subst c103
                          have H1 : (if (t343 != t345) = true then (laws_FnWeights.j3 kj78 t330 t331 t332 true) else (laws_FnWeights.j3 kj78 t330 t331 t332 (t342 != t344))) = some r := by rw [if_pos rfl] at H; exact H
                          clear H
                          have H := H1
                          clear H1
                          by_cases c104 : (t343 != t345) = true
                          · as_aux_lemma =>
                            rw [if_pos c104] at H
                            have c104b0 : (t343 != t345) = true := c104
                            (try (have c104b1 : decide (t343 = t345) = false := by simpa using c104))
                            (try (have c104b2 : (t343 == t345) = false := by simpa using c104))
                            (try (have c104b3 : ¬ (t343 = t345) := by simpa using c104))
                            clear c104
                            have H' := Aside0.mk H
                            clear H
                            obtain ⟨Ao105, co105, eo105⟩ := Kd.R_slice HO334.out
                            subst eo105
                            obtain ⟨Ao106, co106, eo106⟩ := Kd.R_slice HO338.out
                            subst eo106
                            go_wp2_with (first | (go_at_call 38; (with_reducible refine (laws_sameInts.calls kj78 _ _ t331 _ _ t335 true _ ?side1 ?side2 ?side3 ?side4 A102.out).mono ?_); (case side1 => repeat (first | exact (Kd.R_reads' HO334.out).2.2 | (with_reducible refine Kd.C_alloc ?_ _) | (with_reducible refine Kd.C_drewN ?_ _) | (with_reducible refine Kd.C_drew ?_))); (case side2 => exact (Kd.R_reads' HO334.out).2.1); (case side3 => repeat (first | exact (Kd.R_reads' HO338.out).2.2 | (with_reducible refine Kd.C_alloc ?_ _) | (with_reducible refine Kd.C_drewN ?_ _) | (with_reducible refine Kd.C_drew ?_))); (case side4 => exact (Kd.R_reads' HO338.out).2.1); rintro e w' ⟨rfl, ⟨nd, rfl⟩⟩))
                            go_meet
                            case rel => exact ⟨_, (true), (by first | rfl | (simp; done) | (simp [*]; done)), H', ⟨by have := HJ8.out; have := HJ19.out; have := HJ78.out; first | omega | exact Nat.le_refl _⟩, ⟨by (with_reducible repeat (first | apply Kd.R_alloc | apply Kd.R_drewN | apply Kd.R_drew)); exact Kd.R_mono HO334.out (fun _ hk => trivial)⟩, ⟨by repeat (first | (with_reducible first | exact HB.out | apply below_alloc | apply pw_below_drewN | apply below_drew1) | exact HB.out)⟩⟩
                          · as_aux_lemma =>
                            rw [if_neg c104] at H
                            have c104b0 : (t343 != t345) = false := by simpa using c104
                            (try (have c104b1 : decide (t343 = t345) = true := by simpa using c104))
                            (try (have c104b2 : (t343 == t345) = true := by simpa using c104))
                            clear c104
                            have H' := Aside0.mk H
                            clear H
                            obtain ⟨Ao107, co107, eo107⟩ := Kd.R_slice HO334.out
                            subst eo107
                            obtain ⟨Ao108, co108, eo108⟩ := Kd.R_slice HO338.out
                            subst eo108
                            go_wp2_with (first | (go_at_call 38; (with_reducible refine (laws_sameInts.calls kj78 _ _ t331 _ _ t335 true _ ?side1 ?side2 ?side3 ?side4 A102.out).mono ?_); (case side1 => repeat (first | exact (Kd.R_reads' HO334.out).2.2 | (with_reducible refine Kd.C_alloc ?_ _) | (with_reducible refine Kd.C_drewN ?_ _) | (with_reducible refine Kd.C_drew ?_))); (case side2 => exact (Kd.R_reads' HO334.out).2.1); (case side3 => repeat (first | exact (Kd.R_reads' HO338.out).2.2 | (with_reducible refine Kd.C_alloc ?_ _) | (with_reducible refine Kd.C_drewN ?_ _) | (with_reducible refine Kd.C_drew ?_))); (case side4 => exact (Kd.R_reads' HO338.out).2.1); rintro e w' ⟨rfl, ⟨nd, rfl⟩⟩))
                            go_meet
                            case rel => exact ⟨_, ((t342 != t344)), (by first | rfl | (simp; done) | (simp [*]; done)), H', ⟨by have := HJ8.out; have := HJ19.out; have := HJ78.out; first | omega | exact Nat.le_refl _⟩, ⟨by (with_reducible repeat (first | apply Kd.R_alloc | apply Kd.R_drewN | apply Kd.R_drew)); exact Kd.R_mono HO334.out (fun _ hk => trivial)⟩, ⟨by repeat (first | (with_reducible first | exact HB.out | apply below_alloc | apply pw_below_drewN | apply below_drew1) | exact HB.out)⟩⟩
                        · as_aux_lemma =>
                          replace c103 := Bool.eq_false_iff.mpr c103
                          subst c103
                          have H1 : (laws_FnWeights.j3 kj78 t330 t331 t332 true) = some r := by rw [if_neg (show ¬ (false = true) by decide)] at H; exact H
                          clear H
                          have H := H1
                          clear H1
                          have H' := Aside0.mk H
                          clear H
                          obtain ⟨Ao109, co109, eo109⟩ := Kd.R_slice HO334.out
                          subst eo109
                          obtain ⟨Ao110, co110, eo110⟩ := Kd.R_slice HO338.out
                          subst eo110
                          go_wp2_with (first | (go_at_call 38; (with_reducible refine (laws_sameInts.calls kj78 _ _ t331 _ _ t335 false _ ?side1 ?side2 ?side3 ?side4 A102.out).mono ?_); (case side1 => repeat (first | exact (Kd.R_reads' HO334.out).2.2 | (with_reducible refine Kd.C_alloc ?_ _) | (with_reducible refine Kd.C_drewN ?_ _) | (with_reducible refine Kd.C_drew ?_))); (case side2 => exact (Kd.R_reads' HO334.out).2.1); (case side3 => repeat (first | exact (Kd.R_reads' HO338.out).2.2 | (with_reducible refine Kd.C_alloc ?_ _) | (with_reducible refine Kd.C_drewN ?_ _) | (with_reducible refine Kd.C_drew ?_))); (case side4 => exact (Kd.R_reads' HO338.out).2.1); rintro e w' ⟨rfl, ⟨nd, rfl⟩⟩))
                          go_meet
                          case rel => exact ⟨_, (true), (by first | rfl | (simp; done) | (simp [*]; done)), H', ⟨by have := HJ8.out; have := HJ19.out; have := HJ78.out; first | omega | exact Nat.le_refl _⟩, ⟨by (with_reducible repeat (first | apply Kd.R_alloc | apply Kd.R_drewN | apply Kd.R_drew)); exact Kd.R_mono HO334.out (fun _ hk => trivial)⟩, ⟨by repeat (first | (with_reducible first | exact HB.out | apply below_alloc | apply pw_below_drewN | apply below_drew1) | exact HB.out)⟩⟩
                    case rest =>
                      clear HC95
                      try clear c1
                      try clear c2
                      try clear p2
                      try clear c3
                      try clear c3b0
                      try clear c4
                      try clear c5
                      try clear p6
                      try clear c8
                      try clear c10
                      try clear c13
                      try clear c13b0
                      try clear c13b1
                      try clear c13b2
                      try clear c14
                      try clear c14b0
                      try clear c14b1
                      try clear c14b2
                      try clear c15
                      try clear c15b0
                      try clear c15b1
                      try clear c15b2
                      try clear c16
                      try clear c16b0
                      try clear c16b1
                      try clear c19
                      try clear c21
                      try clear c22
                      try clear c24
                      try clear c24b0
                      try clear c24b1
                      try clear c25
                      try clear c26
                      try clear c26b0
                      try clear c26b1
                      try clear c31
                      try clear c32
                      try clear c33
                      try clear c34
                      try clear c35
                      try clear c36
                      try clear c37
                      try clear c39
                      try clear c39b0
                      try clear c47
                      try clear c48
                      try clear c49
                      try clear c50
                      try clear c51
                      try clear c52
                      try clear c53
                      try clear c54
                      try clear c55
                      try clear p64
                      try clear c84
                      try clear c84b0
                      try clear c84b1
                      try clear c84b2
                      try clear c85
                      try clear c85b0
                      try clear c85b1
                      try clear c86
                      try clear c88
                      try clear c101
                      try clear c101b0
                      try clear c101b1
                      try clear c101b2
                      try clear c103
                      try clear c104
                      try clear c104b0
                      try clear c104b1
                      try clear c104b2
                      try clear p2
                      try clear p6
                      try clear p64
                      obtain ⟨kq, x233_94, rfl, HA, HJ94, HO_29, HB⟩ := hcut
                      cases kq with
                      | zero => exact absurd HA.out (by simp [laws_FnWeights.j3])
                      | succ kj94 =>
                        have H := HA.out
                        clear HA
                        simp only [laws_FnWeights.j3] at H
                        by_cases c111 : x233_94 = true
                        · as_aux_lemma =>
                          subst c111
                          have H1 : (some false) = some r := by rw [if_pos rfl] at H; exact H
                          clear H
                          have H := H1
                          clear H1
                          obtain rfl := Option.some.inj H
                          go_wp2
                          go_ret
                          exact ⟨by first | rfl | (simp [errW_none, errW_some] <;> rfl) | (simp [*, errW_none, errW_some] <;> rfl), by repeat (first | (with_reducible first | exact HB.out | apply below_alloc | apply pw_below_drewN | apply below_drew1) | exact HB.out)⟩
                        · as_aux_lemma =>
                          replace c111 := Bool.eq_false_iff.mpr c111
                          subst c111
                          have H1 : (if t332 = true then ((impl_MaskOf.f kj94 t331).bind fun bt347 => (if bt347.2 = true then (some (bt347.1 == t330)) else (some false))) else (some true)) = some r := by rw [if_neg (show ¬ (false = true) by decide)] at H; exact H
                          clear H
                          have H := H1
                          clear H1
                          by_cases c112 : t332 = true
                          · as_aux_lemma =>
                            subst c112
                            have H1 : ((impl_MaskOf.f kj94 t331).bind fun bt347 => (if bt347.2 = true then (some (bt347.1 == t330)) else (some false))) = some r := by rw [if_pos rfl] at H; exact H
                            clear H
                            have H := H1
                            clear H1
                            replace H := Option.bind_eq_some_iff.mp H
                            obtain ⟨⟨t347, t348⟩, A1130, H⟩ := H
                            replace H : (if t348 = true then (some (t347 == t330)) else (some false)) = some r := H
                            have A113 := Aside0.mk A1130
                            clear A1130
                            by_cases c114 : t348 = true
                            · as_aux_lemma =>
                              subst c114
                              have H1 : (some (t347 == t330)) = some r := by rw [if_pos rfl] at H; exact H
                              clear H
                              have H := H1
                              clear H1
                              obtain rfl := Option.some.inj H
                              obtain ⟨Ao115, co115, eo115⟩ := Kd.R_slice HO_29.out
                              subst eo115
                              go_wp2_with (first | ((with_reducible refine gate_callee (f := 54) rfl ?_); refine goesL_ (some 237) rfl rfl Try.func54 (by kernel_rfl) rfl #[.slice Ao115 t331.length co115] rfl (by (try simp only [List.map_toArray, List.map_cons, List.map_nil]); first | done | rfl | (simp only [List.length_drop, List.length_take]; rfl)) ?_; (with_reducible refine (impl_MaskOf.calls kj94 _ _ t331 t347 true _ ?side1 ?side2 A113.out).mono ?_); (case side1 => repeat (first | exact (Kd.R_reads' HO_29.out).2.2 | (with_reducible refine Kd.C_alloc ?_ _) | (with_reducible refine Kd.C_drewN ?_ _) | (with_reducible refine Kd.C_drew ?_))); (case side2 => exact (Kd.R_reads' HO_29.out).2.1); rintro e w' ⟨rfl, ⟨nd, rfl⟩⟩; refine ⟨_, rfl, ?_⟩))
                              go_ret
                              exact ⟨by first | rfl | (simp [errW_none, errW_some] <;> rfl) | (simp [*, errW_none, errW_some] <;> rfl), by repeat (first | (with_reducible first | exact HB.out | apply below_alloc | apply pw_below_drewN | apply below_drew1) | exact HB.out)⟩
                            · as_aux_lemma =>
                              replace c114 := Bool.eq_false_iff.mpr c114
                              subst c114
                              have H1 : (some false) = some r := by rw [if_neg (show ¬ (false = true) by decide)] at H; exact H
                              clear H
                              have H := H1
                              clear H1
                              obtain rfl := Option.some.inj H
                              obtain ⟨Ao116, co116, eo116⟩ := Kd.R_slice HO_29.out
                              subst eo116
                              go_wp2_with (first | ((with_reducible refine gate_callee (f := 54) rfl ?_); refine goesL_ (some 237) rfl rfl Try.func54 (by kernel_rfl) rfl #[.slice Ao116 t331.length co116] rfl (by (try simp only [List.map_toArray, List.map_cons, List.map_nil]); first | done | rfl | (simp only [List.length_drop, List.length_take]; rfl)) ?_; (with_reducible refine (impl_MaskOf.calls kj94 _ _ t331 t347 false _ ?side1 ?side2 A113.out).mono ?_); (case side1 => repeat (first | exact (Kd.R_reads' HO_29.out).2.2 | (with_reducible refine Kd.C_alloc ?_ _) | (with_reducible refine Kd.C_drewN ?_ _) | (with_reducible refine Kd.C_drew ?_))); (case side2 => exact (Kd.R_reads' HO_29.out).2.1); rintro e w' ⟨rfl, ⟨nd, rfl⟩⟩; refine ⟨_, rfl, ?_⟩))
                              go_ret
                              exact ⟨by first | rfl | (simp [errW_none, errW_some] <;> rfl) | (simp [*, errW_none, errW_some] <;> rfl), by repeat (first | (with_reducible first | exact HB.out | apply below_alloc | apply pw_below_drewN | apply below_drew1) | exact HB.out)⟩
                          · as_aux_lemma =>
                            replace c112 := Bool.eq_false_iff.mpr c112
                            subst c112
                            have H1 : (some true) = some r := by rw [if_neg (show ¬ (false = true) by decide)] at H; exact H
                            clear H
                            have H := H1
                            clear H1
                            obtain rfl := Option.some.inj H
                            go_wp2
                            go_ret
                            exact ⟨by first | rfl | (simp [errW_none, errW_some] <;> rfl) | (simp [*, errW_none, errW_some] <;> rfl), by repeat (first | (with_reducible first | exact HB.out | apply below_alloc | apply pw_below_drewN | apply below_drew1) | exact HB.out)⟩

/-- THE ONE PURE STATEMENT of laws_FnWeights: yours. -/
def laws_FnWeights.Pure : Prop := ∀ (l0 : List Int) (l1 : List Int), l0.length ≤ maxLen → l0.length * 1 ≤ 140737488351232 → (∀ x ∈ l0, (Lit.int .u8 x).wf = true) → l1.length ≤ maxLen → l1.length * 1 ≤ 140737488351232 → (∀ x ∈ l1, (Lit.int .u8 x).wf = true) → ∃ k, laws_FnWeights.f k l0 l1 = some true
theorem laws_FnWeights.walk (P : laws_FnWeights.Pure) (a0 : Option Addr) (len0 cap0 : Nat) (z0 : List Int) (a1 : Option Addr) (len1 cap1 : Nat) (z1 : List Int) (w : World) (w0 : (a0 = none ∧ len0 = 0 ∧ cap0 = 0 ∧ z0 = []) ∨ ∃ x, a0 = some x ∧ len0 ≤ cap0 ∧ cap0 ≤ maxLen ∧ z0.length = cap0 ∧ (∀ i, i < z0.length → w.cell? (x.add i) = some (.int .u8 (z0.getD i 0))) ∧ ∀ n ∈ z0, (Lit.int .u8 n).wf = true) (y0 : len0 * 1 ≤ 140737488351232) (w1 : (a1 = none ∧ len1 = 0 ∧ cap1 = 0 ∧ z1 = []) ∨ ∃ x, a1 = some x ∧ len1 ≤ cap1 ∧ cap1 ≤ maxLen ∧ z1.length = cap1 ∧ (∀ i, i < z1.length → w.cell? (x.add i) = some (.int .u8 (z1.getD i 0))) ∧ ∀ n ∈ z1, (Lit.int .u8 n).wf = true) (y1 : len1 * 1 ≤ 140737488351232) :
    Calls Try.prog 13 #[.slice a0 len0 cap0, .slice a1 len1 cap1] w fun e w' => e = .returned (.bool true) ∧ Below w.heap.size w w' := by
  obtain ⟨l0, rfl, hr0, hm0, hw0, hc0⟩ := ReadsInt.ofRowC w0
  obtain ⟨l1, rfl, hr1, hm1, hw1, hc1⟩ := ReadsInt.ofRowC w1
  obtain ⟨k, h⟩ := P l0 l1 hm0 y0 hw0 hm1 y1 hw1
  refine (laws_FnWeights.calls k _ _ l0 _ _ l1 true w (Kd.C_of_reads (d := (0 : Int)) (h1 := fun _ => rfl) hr0) hc0 (Kd.C_of_reads (d := (0 : Int)) (h1 := fun _ => rfl) hr1) hc1 h).mono ?_
  rintro e w' ⟨rfl, hd⟩
  exact ⟨rfl, hd⟩

end Go.Proofs.Ytejjchgjfapkkaa.PFnWeights
