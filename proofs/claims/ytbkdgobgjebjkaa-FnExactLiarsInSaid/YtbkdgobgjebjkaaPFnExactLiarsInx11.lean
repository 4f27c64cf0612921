-- Written for this claim by a program of this session, out of Lean's own print of the program. Nothing in it is trusted: Lean checks it.
import Derived.Test.YtbkdgobgjebjkaaPFnExactLiarsInx0
import Derived.Test.YtbkdgobgjebjkaaPFnExactLiarsInx2
import Derived.Test.YtbkdgobgjebjkaaPFnExactLiarsInx3
import Derived.Test.YtbkdgobgjebjkaaPFnExactLiarsInx4
import Derived.Test.YtbkdgobgjebjkaaPFnExactLiarsInx7
import Derived.Test.YtbkdgobgjebjkaaPFnExactLiarsInx10
namespace Go.Proofs.Ytbkdgobgjebjkaa.PFnExactLiarsIn
open Go.RowKit Go.Proofs.YtbkdgobgjebjkaaW.PrintWords Go.Proofs.YtbkdgobgjebjkaaW.PrintLast Go.Proofs.YtbkdgobgjebjkaaW.PrintMore
attribute [local go_sem] max2_int min2_int max_two min_two max_three min_three max_four min_four   -- for this text's walks alone
set_option linter.unusedVariables false
set_option linter.unusedSimpArgs false

/-! ### laws_FnExactLiarsIn: function 4 -/
mutual
def laws_FnExactLiarsIn.j0 : Nat → List (S74) → List Int → List Int → Bool → List (S72) → List Int → List Int → Bool → Bool → List (S93) → List (S67) → Option (Bool)
  | 0, _, _, _, _, _, _, _, _, _, _, _ => none
  | k + 1, x0, x1, x8, x9, x10, x11, x13, x14, x64, x298000, x323000 => if x64 = true then (some false) else ((laws_toBlockS.f k x0).bind fun t328 => ((laws_eqBlockS.f k x10 t328).bind fun t331 => (if t331 = true then ((laws_toIntS.f k x1).bind fun t332 => ((laws_eqIntS.f k x11 t332).bind fun t335 => (if t335 = true then ((laws_toPool.f k x298000).bind fun t336 => ((laws_eqPool.f k x323000 t336).bind fun t339 => (if t339 = true then ((laws_markBlockS.f k x10 1).bind fun bt340 => ((laws_markIntS.f k x11 bt340.1).bind fun bt342 => ((laws_markPool.f k x323000 bt342.1).bind fun bt344 => (if bt344.1 < 0 then (laws_FnExactLiarsIn.j1 k x0 x1 x8 x9 x13 true x298000) else ((laws_eqIntS.f k x13 x8).bind fun t346 => (if t346 = true then (laws_FnExactLiarsIn.j1 k x0 x1 x8 x9 x13 (x14 != x9) x298000) else (laws_FnExactLiarsIn.j1 k x0 x1 x8 x9 x13 true x298000))))))) else (some false)))) else (some false)))) else (some false))))
def laws_FnExactLiarsIn.j1 : Nat → List (S74) → List Int → List Int → Bool → List Int → Bool → List (S93) → Option (Bool)
  | 0, _, _, _, _, _, _, _ => none
  | k + 1, x0, x1, x8, x9, x13, x101, x298000 => if x101 = true then (some false) else ((laws_markIntS.f k x13 1).bind fun bt347 => ((laws_heldIntS.f k bt347.2 1).bind fun t349 => (if t349 < 0 then (some false) else (if t349 = bt347.1 then ((laws_toBlockS.f k x0).bind fun t350 => ((laws_toIntS.f k x1).bind fun t353 => ((laws_toPool.f k x298000).bind fun t356 => ((impl_LiarsIn.f k t350 t353 t356).bind fun bt359 => ((laws_eqIntS.f k bt359.1 x8).bind fun t363 => (if t363 = true then (laws_FnExactLiarsIn.j2 k bt347.2 bt347.1 (bt359.2 != x9)) else (laws_FnExactLiarsIn.j2 k bt347.2 bt347.1 true))))))) else (some false)))))
def laws_FnExactLiarsIn.j2 : Nat → List Int → Int → Bool → Option (Bool)
  | 0, _, _, _ => none
  | k + 1, x13, x16, x131 => if x131 = true then (some false) else ((laws_heldIntS.f k x13 1).bind fun t364 => (if t364 < 0 then (some false) else (if t364 = x16 then (some true) else (some false))))
end
def laws_FnExactLiarsIn.f (k : Nat) (l0 : List (S74)) (l1 : List Int) (l2_0 : List (S93)) : Option (Bool) := if (l1.length : Int) > 1048576 then (some true) else ((laws_szBlockS.f l0 1048576).bind fun t298 => (if t298 < 0 then (some true) else ((laws_szPool.f l2_0 t298).bind fun t299 => (if t299 < 0 then (some true) else ((laws_toBlockS.f k l0).bind fun t300 => ((laws_toIntS.f k l1).bind fun t303 => ((laws_toPool.f k l2_0).bind fun t306 => ((spec_LiarsIn.f k t300 t303 t306).bind fun bt309 => ((laws_toBlockS.f k l0).bind fun t313 => ((laws_toIntS.f k l1).bind fun t316 => ((laws_toPool.f k l2_0).bind fun t319 => ((impl_LiarsIn.f k t313 t316 t319).bind fun bt323 => ((laws_eqIntS.f k bt323.1 bt309.1).bind fun t327 => (if t327 = true then (laws_FnExactLiarsIn.j0 k l0 l1 bt309.1 bt309.2 t313 t316 bt323.1 bt323.2 (bt323.2 != bt309.2) l2_0 t319) else (laws_FnExactLiarsIn.j0 k l0 l1 bt309.1 bt309.2 t313 t316 bt323.1 bt323.2 true l2_0 t319)))))))))))))))
theorem laws_FnExactLiarsIn.mono_l : ∀ k, (∀ y0 y1 y2 y3 y4 y5 y6 y7 y8 y9 y10, LeO (laws_FnExactLiarsIn.j0 k y0 y1 y2 y3 y4 y5 y6 y7 y8 y9 y10) (laws_FnExactLiarsIn.j0 (k + 1) y0 y1 y2 y3 y4 y5 y6 y7 y8 y9 y10)) ∧ (∀ y0 y1 y2 y3 y4 y5 y6, LeO (laws_FnExactLiarsIn.j1 k y0 y1 y2 y3 y4 y5 y6) (laws_FnExactLiarsIn.j1 (k + 1) y0 y1 y2 y3 y4 y5 y6)) ∧ (∀ y0 y1 y2, LeO (laws_FnExactLiarsIn.j2 k y0 y1 y2) (laws_FnExactLiarsIn.j2 (k + 1) y0 y1 y2))
  | 0 => ⟨fun _ _ _ _ _ _ _ _ _ _ _ r h => by simp [laws_FnExactLiarsIn.j0] at h, fun _ _ _ _ _ _ _ r h => by simp [laws_FnExactLiarsIn.j1] at h, fun _ _ _ r h => by simp [laws_FnExactLiarsIn.j2] at h⟩
  | k + 1 => by
    obtain ⟨ih0, ih1, ih2⟩ := laws_FnExactLiarsIn.mono_l k
    refine ⟨?_, ?_, ?_⟩
    · intro y0 y1 y2 y3 y4 y5 y6 y7 y8 y9 y10
      unfold laws_FnExactLiarsIn.j0
      repeat' first
      | (with_reducible exact ih0 _ _ _ _ _ _ _ _ _ _ _)
      | (with_reducible exact ih1 _ _ _ _ _ _ _)
      | (with_reducible exact ih2 _ _ _)
      | (with_reducible exact impl_LiarsIn.mono _ _ _ _)
      | (with_reducible exact laws_eqBlockS.mono _ _ _)
      | (with_reducible exact laws_eqIntS.mono _ _ _)
      | (with_reducible exact laws_eqPool.mono _ _ _)
      | (with_reducible exact laws_heldIntS.mono _ _ _)
      | (with_reducible exact laws_markBlockS.mono _ _ _)
      | (with_reducible exact laws_markIntS.mono _ _ _)
      | (with_reducible exact laws_markPool.mono _ _ _)
      | (with_reducible exact laws_toBlockS.mono _ _)
      | (with_reducible exact laws_toIntS.mono _ _)
      | (with_reducible exact laws_toPool.mono _ _)
      | (with_reducible exact spec_LiarsIn.mono _ _ _ _)
      | (with_reducible exact LeO.refl _)
      | (with_reducible exact LeO.none _)
      | (with_reducible refine LeO.ite ?_ ?_)
      | (with_reducible refine LeO.bind ?_ (fun _ => ?_))
      | exact ih0 _ _ _ _ _ _ _ _ _ _ _
      | exact ih1 _ _ _ _ _ _ _
      | exact ih2 _ _ _
      | exact impl_LiarsIn.mono _ _ _ _
      | exact laws_eqBlockS.mono _ _ _
      | exact laws_eqIntS.mono _ _ _
      | exact laws_eqPool.mono _ _ _
      | exact laws_heldIntS.mono _ _ _
      | exact laws_markBlockS.mono _ _ _
      | exact laws_markIntS.mono _ _ _
      | exact laws_markPool.mono _ _ _
      | exact laws_toBlockS.mono _ _
      | exact laws_toIntS.mono _ _
      | exact laws_toPool.mono _ _
      | exact spec_LiarsIn.mono _ _ _ _
      | exact LeO.none _
      | refine LeO.ite ?_ ?_
      | refine LeO.bind ?_ (fun _ => ?_)
    · intro y0 y1 y2 y3 y4 y5 y6
      unfold laws_FnExactLiarsIn.j1
      repeat' first
      | (with_reducible exact ih0 _ _ _ _ _ _ _ _ _ _ _)
      | (with_reducible exact ih1 _ _ _ _ _ _ _)
      | (with_reducible exact ih2 _ _ _)
      | (with_reducible exact impl_LiarsIn.mono _ _ _ _)
      | (with_reducible exact laws_eqBlockS.mono _ _ _)
      | (with_reducible exact laws_eqIntS.mono _ _ _)
      | (with_reducible exact laws_eqPool.mono _ _ _)
      | (with_reducible exact laws_heldIntS.mono _ _ _)
      | (with_reducible exact laws_markBlockS.mono _ _ _)
      | (with_reducible exact laws_markIntS.mono _ _ _)
      | (with_reducible exact laws_markPool.mono _ _ _)
      | (with_reducible exact laws_toBlockS.mono _ _)
      | (with_reducible exact laws_toIntS.mono _ _)
      | (with_reducible exact laws_toPool.mono _ _)
      | (with_reducible exact spec_LiarsIn.mono _ _ _ _)
      | (with_reducible exact LeO.refl _)
      | (with_reducible exact LeO.none _)
      | (with_reducible refine LeO.ite ?_ ?_)
      | (with_reducible refine LeO.bind ?_ (fun _ => ?_))
      | exact ih0 _ _ _ _ _ _ _ _ _ _ _
      | exact ih1 _ _ _ _ _ _ _
      | exact ih2 _ _ _
      | exact impl_LiarsIn.mono _ _ _ _
      | exact laws_eqBlockS.mono _ _ _
      | exact laws_eqIntS.mono _ _ _
      | exact laws_eqPool.mono _ _ _
      | exact laws_heldIntS.mono _ _ _
      | exact laws_markBlockS.mono _ _ _
      | exact laws_markIntS.mono _ _ _
      | exact laws_markPool.mono _ _ _
      | exact laws_toBlockS.mono _ _
      | exact laws_toIntS.mono _ _
      | exact laws_toPool.mono _ _
      | exact spec_LiarsIn.mono _ _ _ _
      | exact LeO.none _
      | refine LeO.ite ?_ ?_
      | refine LeO.bind ?_ (fun _ => ?_)
    · intro y0 y1 y2
      unfold laws_FnExactLiarsIn.j2
      repeat' first
      | (with_reducible exact ih0 _ _ _ _ _ _ _ _ _ _ _)
      | (with_reducible exact ih1 _ _ _ _ _ _ _)
      | (with_reducible exact ih2 _ _ _)
      | (with_reducible exact impl_LiarsIn.mono _ _ _ _)
      | (with_reducible exact laws_eqBlockS.mono _ _ _)
      | (with_reducible exact laws_eqIntS.mono _ _ _)
      | (with_reducible exact laws_eqPool.mono _ _ _)
      | (with_reducible exact laws_heldIntS.mono _ _ _)
      | (with_reducible exact laws_markBlockS.mono _ _ _)
      | (with_reducible exact laws_markIntS.mono _ _ _)
      | (with_reducible exact laws_markPool.mono _ _ _)
      | (with_reducible exact laws_toBlockS.mono _ _)
      | (with_reducible exact laws_toIntS.mono _ _)
      | (with_reducible exact laws_toPool.mono _ _)
      | (with_reducible exact spec_LiarsIn.mono _ _ _ _)
      | (with_reducible exact LeO.refl _)
      | (with_reducible exact LeO.none _)
      | (with_reducible refine LeO.ite ?_ ?_)
      | (with_reducible refine LeO.bind ?_ (fun _ => ?_))
      | exact ih0 _ _ _ _ _ _ _ _ _ _ _
      | exact ih1 _ _ _ _ _ _ _
      | exact ih2 _ _ _
      | exact impl_LiarsIn.mono _ _ _ _
      | exact laws_eqBlockS.mono _ _ _
      | exact laws_eqIntS.mono _ _ _
      | exact laws_eqPool.mono _ _ _
      | exact laws_heldIntS.mono _ _ _
      | exact laws_markBlockS.mono _ _ _
      | exact laws_markIntS.mono _ _ _
      | exact laws_markPool.mono _ _ _
      | exact laws_toBlockS.mono _ _
      | exact laws_toIntS.mono _ _
      | exact laws_toPool.mono _ _
      | exact spec_LiarsIn.mono _ _ _ _
      | exact LeO.none _
      | refine LeO.ite ?_ ?_
      | refine LeO.bind ?_ (fun _ => ?_)
theorem laws_FnExactLiarsIn.mono : ∀ a0 a1 a2 k, LeO (laws_FnExactLiarsIn.f k a0 a1 a2) (laws_FnExactLiarsIn.f (k + 1) a0 a1 a2) := by
  intro a0 a1 a2 k
  obtain ⟨ih0, ih1, ih2⟩ := laws_FnExactLiarsIn.mono_l k
  unfold laws_FnExactLiarsIn.f
  repeat' first
      | (with_reducible exact ih0 _ _ _ _ _ _ _ _ _ _ _)
      | (with_reducible exact ih1 _ _ _ _ _ _ _)
      | (with_reducible exact ih2 _ _ _)
      | (with_reducible exact impl_LiarsIn.mono _ _ _ _)
      | (with_reducible exact laws_eqBlockS.mono _ _ _)
      | (with_reducible exact laws_eqIntS.mono _ _ _)
      | (with_reducible exact laws_eqPool.mono _ _ _)
      | (with_reducible exact laws_heldIntS.mono _ _ _)
      | (with_reducible exact laws_markBlockS.mono _ _ _)
      | (with_reducible exact laws_markIntS.mono _ _ _)
      | (with_reducible exact laws_markPool.mono _ _ _)
      | (with_reducible exact laws_toBlockS.mono _ _)
      | (with_reducible exact laws_toIntS.mono _ _)
      | (with_reducible exact laws_toPool.mono _ _)
      | (with_reducible exact spec_LiarsIn.mono _ _ _ _)
      | (with_reducible exact LeO.refl _)
      | (with_reducible exact LeO.none _)
      | (with_reducible refine LeO.ite ?_ ?_)
      | (with_reducible refine LeO.bind ?_ (fun _ => ?_))
      | exact ih0 _ _ _ _ _ _ _ _ _ _ _
      | exact ih1 _ _ _ _ _ _ _
      | exact ih2 _ _ _
      | exact impl_LiarsIn.mono _ _ _ _
      | exact laws_eqBlockS.mono _ _ _
      | exact laws_eqIntS.mono _ _ _
      | exact laws_eqPool.mono _ _ _
      | exact laws_heldIntS.mono _ _ _
      | exact laws_markBlockS.mono _ _ _
      | exact laws_markIntS.mono _ _ _
      | exact laws_markPool.mono _ _ _
      | exact laws_toBlockS.mono _ _
      | exact laws_toIntS.mono _ _
      | exact laws_toPool.mono _ _
      | exact spec_LiarsIn.mono _ _ _ _
      | exact LeO.none _
      | refine LeO.ite ?_ ?_
      | refine LeO.bind ?_ (fun _ => ?_)
def laws_FnExactLiarsIn.T10 : Bool × List (List Nat × List Nat) := (true, [([], []), ([0], [0]), ([], []), ([2, 1], [2]), ([], []), ([4, 3], [4]), ([1, 3, 5, 5], [1, 3, 5]), ([6], [6]), ([7], [7]), ([7], [7]), ([8, 6, 0, 1, 2, 3, 4, 5, 6, 7, 8], [8]), ([9, 10, 0, 1, 2, 3, 4, 5, 6, 7, 8, 9, 10], [9])])
def laws_FnExactLiarsIn.B10 : List Nat := [0, 1, 0, 7, 0, 31, 63, 127, 255, 255, 511, 2047]
theorem laws_FnExactLiarsIn.tab10 : rtab .any (opsOf Try.f4 10) = laws_FnExactLiarsIn.T10 := by kernel_rfl
theorem laws_FnExactLiarsIn.bits10 : waitsOk laws_FnExactLiarsIn.T10.2 laws_FnExactLiarsIn.B10 = true := by kernel_rfl
def laws_FnExactLiarsIn.T37 : Bool × List (List Nat × List Nat) := (true, [([], []), ([0], [0]), ([], []), ([2, 1], [2]), ([], []), ([4, 3], [4]), ([1, 3, 5, 5], [1, 3, 5]), ([6], [6]), ([7], [7]), ([7], [7]), ([8, 6, 0, 1, 2, 3, 4, 5, 6, 7, 8], [8]), ([9, 10, 0, 1, 2, 3, 4, 5, 6, 7, 8, 9, 10], [9])])
def laws_FnExactLiarsIn.B37 : List Nat := [0, 1, 0, 7, 0, 31, 63, 127, 255, 255, 511, 2047]
theorem laws_FnExactLiarsIn.tab37 : rtab .any (opsOf Try.f4 37) = laws_FnExactLiarsIn.T37 := by kernel_rfl
theorem laws_FnExactLiarsIn.bits37 : waitsOk laws_FnExactLiarsIn.T37.2 laws_FnExactLiarsIn.B37 = true := by kernel_rfl
set_option maxHeartbeats 8000000 in
set_option maxRecDepth 100000 in
theorem laws_FnExactLiarsIn.calls (k : Nat) (A0 : Option Addr) (c0 : Nat) (l0 : List (S74)) (A1 : Option Addr) (c1 : Nat) (l1 : List Int) (A2_0 : Option Addr) (c2_0 : Nat) (l2_0 : List (S93)) (r : Bool) (w : World) (hr0 : Kd.C k74 w A0 l0.length l0) (hc0 : l0.length ≤ c0) (hr1 : Kd.C (Kd.int .i64) w A1 l1.length l1) (hc1 : l1.length ≤ c1) (hr2_0 : Kd.C k93 w A2_0 l2_0.length l2_0) (hc2_0 : l2_0.length ≤ c2_0) (h : laws_FnExactLiarsIn.f k l0 l1 l2_0 = some r) :
    Calls Try.prog 4 #[.slice A0 l0.length c0, .slice A1 l1.length c1, .agg #[.slice A2_0 l2_0.length c2_0]] w fun e w' => e = .returned (.bool r) ∧ Below w.heap.size w w' := by
  have hu26 := Try.underlying26
  have hu35 := Try.underlying35
  have HR0 := Aside0.mk hr0
  have HC0 := Aside0.mk hc0
  clear hr0 hc0
  have HR1 := Aside0.mk hr1
  have HC1 := Aside0.mk hc1
  clear hr1 hc1
  have HR2_0 := Aside0.mk hr2_0
  have HC2_0 := Aside0.mk hc2_0
  clear hr2_0 hc2_0
  have HB := Aside0.mk (Below.refl w.heap.size w)
  have H : (if (l1.length : Int) > 1048576 then (some true) else ((laws_szBlockS.f l0 1048576).bind fun t298 => (if t298 < 0 then (some true) else ((laws_szPool.f l2_0 t298).bind fun t299 => (if t299 < 0 then (some true) else ((laws_toBlockS.f k l0).bind fun t300 => ((laws_toIntS.f k l1).bind fun t303 => ((laws_toPool.f k l2_0).bind fun t306 => ((spec_LiarsIn.f k t300 t303 t306).bind fun bt309 => ((laws_toBlockS.f k l0).bind fun t313 => ((laws_toIntS.f k l1).bind fun t316 => ((laws_toPool.f k l2_0).bind fun t319 => ((impl_LiarsIn.f k t313 t316 t319).bind fun bt323 => ((laws_eqIntS.f k bt323.1 bt309.1).bind fun t327 => (if t327 = true then (laws_FnExactLiarsIn.j0 k l0 l1 bt309.1 bt309.2 t313 t316 bt323.1 bt323.2 (bt323.2 != bt309.2) l2_0 t319) else (laws_FnExactLiarsIn.j0 k l0 l1 bt309.1 bt309.2 t313 t316 bt323.1 bt323.2 true l2_0 t319)))))))))))))))) = some r := h
  clear h
  by_cases c4 : (l1.length : Int) > 1048576
  · rw [if_pos c4] at H
    have c4b0 : decide (1048576 < (l1.length : Int)) = true := decide_eq_true c4
    have c4b1 : decide (1048576 < l1.length) = true := decide_eq_true (by omega)
    clear c4
    obtain rfl := Option.some.inj H
    go_enter Try.func4, Try.ntmps4
    go_wp2_with (first | ((with_reducible refine gate_dst (N := 5) rfl ?_); refine box_event ?hg (N := 5) ?hd (cs := #[.slice A2_0 l2_0.length c2_0]) (t := 26) ?hr ?_; (case hd => rfl); (case hg => rfl); (case hr => first | (go_simp; done) | (go_simp; rfl)); intro gb297 hg w5 hbox hb; have n0_ := Aside0.mk (below_step (by repeat (first | (with_reducible first | exact HB.out | apply below_alloc | apply pw_below_drewN | apply below_drew1) | exact HB.out)) hb); have n1_ := Aside0.mk (hbox); have n2_ := Aside0.mk ((by rw [hg]; exact (below_size (by repeat (first | (with_reducible first | exact HB.out | apply below_alloc | apply pw_below_drewN | apply below_drew1) | exact HB.out))) : w.heap.size ≤ gb297)); have n3_ := Aside0.mk ((by rw [hg]; exact (below_size (by repeat (first | (with_reducible first | exact HB.out | apply below_alloc | apply pw_below_drewN | apply below_drew1) | exact HB.out))) : w.heap.size ≤ gb297)); clear HB; have HB := n0_; have BK297 := n1_; have GW297 := n2_; have GE297 := n3_; clear n0_ n1_ n2_ n3_; clear hb hbox hg))
    go_ret
    exact ⟨by first | rfl | (simp [errW_none, errW_some] <;> rfl) | (simp [*, errW_none, errW_some] <;> rfl), by repeat (first | (with_reducible first | exact HB.out | apply below_alloc | apply pw_below_drewN | apply below_drew1 | refine below_set ?_ GE297.out) | exact HB.out)⟩
  · rw [if_neg c4] at H
    have c4b0 : decide (1048576 < (l1.length : Int)) = false := decide_eq_false c4
    have c4b1 : decide (1048576 < l1.length) = false := decide_eq_false (by omega)
    clear c4
    replace H := Option.bind_eq_some_iff.mp H
    obtain ⟨t298, A60, H⟩ := H
    replace H : (if t298 < 0 then (some true) else ((laws_szPool.f l2_0 t298).bind fun t299 => (if t299 < 0 then (some true) else ((laws_toBlockS.f k l0).bind fun t300 => ((laws_toIntS.f k l1).bind fun t303 => ((laws_toPool.f k l2_0).bind fun t306 => ((spec_LiarsIn.f k t300 t303 t306).bind fun bt309 => ((laws_toBlockS.f k l0).bind fun t313 => ((laws_toIntS.f k l1).bind fun t316 => ((laws_toPool.f k l2_0).bind fun t319 => ((impl_LiarsIn.f k t313 t316 t319).bind fun bt323 => ((laws_eqIntS.f k bt323.1 bt309.1).bind fun t327 => (if t327 = true then (laws_FnExactLiarsIn.j0 k l0 l1 bt309.1 bt309.2 t313 t316 bt323.1 bt323.2 (bt323.2 != bt309.2) l2_0 t319) else (laws_FnExactLiarsIn.j0 k l0 l1 bt309.1 bt309.2 t313 t316 bt323.1 bt323.2 true l2_0 t319)))))))))))))) = some r := H
    have A6 := Aside0.mk A60
    clear A60
    by_cases c7 : t298 < 0
    · rw [if_pos c7] at H
      have c7b0 : decide (t298 < 0) = true := decide_eq_true c7
      clear c7
      obtain rfl := Option.some.inj H
      go_enter Try.func4, Try.ntmps4
      go_wp2_with (first | ((with_reducible refine gate_dst (N := 5) rfl ?_); refine box_event ?hg (N := 5) ?hd (cs := #[.slice A2_0 l2_0.length c2_0]) (t := 26) ?hr ?_; (case hd => rfl); (case hg => rfl); (case hr => first | (go_simp; done) | (go_simp; rfl)); intro gb297 hg w8 hbox hb; have n0_ := Aside0.mk (below_step (by repeat (first | (with_reducible first | exact HB.out | apply below_alloc | apply pw_below_drewN | apply below_drew1) | exact HB.out)) hb); have n1_ := Aside0.mk (hbox); have n2_ := Aside0.mk ((by rw [hg]; exact (below_size (by repeat (first | (with_reducible first | exact HB.out | apply below_alloc | apply pw_below_drewN | apply below_drew1) | exact HB.out))) : w.heap.size ≤ gb297)); have n3_ := Aside0.mk ((by rw [hg]; exact (below_size (by repeat (first | (with_reducible first | exact HB.out | apply below_alloc | apply pw_below_drewN | apply below_drew1) | exact HB.out))) : w.heap.size ≤ gb297)); clear HB; have HB := n0_; have BK297 := n1_; have GW297 := n2_; have GE297 := n3_; clear n0_ n1_ n2_ n3_; clear hb hbox hg) | ((with_reducible refine gate_callee (f := 10) rfl ?_); refine goesL_ (some 25) rfl rfl Try.func10 (by kernel_rfl) rfl #[.slice A0 l0.length c0, .int .i64 1048576] rfl (by (try simp only [List.map_toArray, List.map_cons, List.map_nil]); first | done | rfl | (simp only [List.length_drop, List.length_take]; rfl)) ?_; (with_reducible refine (laws_szBlockS.calls _ _ l0 1048576 t298 _ ?side1 ?side2 A6.out).mono ?_); (case side1 => repeat (first | exact (Kd.C_below HR0.out HB.out) | (with_reducible refine Kd.C_alloc ?_ _) | (with_reducible refine Kd.C_drewN ?_ _) | (with_reducible refine Kd.C_drew ?_))); (case side2 => exact HC0.out); rintro e w' ⟨rfl, ⟨nd, rfl⟩⟩; refine ⟨_, rfl, ?_⟩))
      go_ret
      exact ⟨by first | rfl | (simp [errW_none, errW_some] <;> rfl) | (simp [*, errW_none, errW_some] <;> rfl), by repeat (first | (with_reducible first | exact HB.out | apply below_alloc | apply pw_below_drewN | apply below_drew1 | refine below_set ?_ GE297.out) | exact HB.out)⟩
    · rw [if_neg c7] at H
      have c7b0 : decide (t298 < 0) = false := decide_eq_false c7
      clear c7
      replace H := Option.bind_eq_some_iff.mp H
      obtain ⟨t299, A90, H⟩ := H
      replace H : (if t299 < 0 then (some true) else ((laws_toBlockS.f k l0).bind fun t300 => ((laws_toIntS.f k l1).bind fun t303 => ((laws_toPool.f k l2_0).bind fun t306 => ((spec_LiarsIn.f k t300 t303 t306).bind fun bt309 => ((laws_toBlockS.f k l0).bind fun t313 => ((laws_toIntS.f k l1).bind fun t316 => ((laws_toPool.f k l2_0).bind fun t319 => ((impl_LiarsIn.f k t313 t316 t319).bind fun bt323 => ((laws_eqIntS.f k bt323.1 bt309.1).bind fun t327 => (if t327 = true then (laws_FnExactLiarsIn.j0 k l0 l1 bt309.1 bt309.2 t313 t316 bt323.1 bt323.2 (bt323.2 != bt309.2) l2_0 t319) else (laws_FnExactLiarsIn.j0 k l0 l1 bt309.1 bt309.2 t313 t316 bt323.1 bt323.2 true l2_0 t319)))))))))))) = some r := H
      have A9 := Aside0.mk A90
      clear A90
      by_cases c10 : t299 < 0
      · rw [if_pos c10] at H
        have c10b0 : decide (t299 < 0) = true := decide_eq_true c10
        clear c10
        obtain rfl := Option.some.inj H
        go_enter Try.func4, Try.ntmps4
        go_wp2_with (first | ((with_reducible refine gate_dst (N := 5) rfl ?_); refine box_event ?hg (N := 5) ?hd (cs := #[.slice A2_0 l2_0.length c2_0]) (t := 26) ?hr ?_; (case hd => rfl); (case hg => rfl); (case hr => first | (go_simp; done) | (go_simp; rfl)); intro gb297 hg w11 hbox hb; have n0_ := Aside0.mk (below_step (by repeat (first | (with_reducible first | exact HB.out | apply below_alloc | apply pw_below_drewN | apply below_drew1) | exact HB.out)) hb); have n1_ := Aside0.mk (hbox); have n2_ := Aside0.mk ((by rw [hg]; exact (below_size (by repeat (first | (with_reducible first | exact HB.out | apply below_alloc | apply pw_below_drewN | apply below_drew1) | exact HB.out))) : w.heap.size ≤ gb297)); have n3_ := Aside0.mk ((by rw [hg]; exact (below_size (by repeat (first | (with_reducible first | exact HB.out | apply below_alloc | apply pw_below_drewN | apply below_drew1) | exact HB.out))) : w.heap.size ≤ gb297)); clear HB; have HB := n0_; have BK297 := n1_; have GW297 := n2_; have GE297 := n3_; clear n0_ n1_ n2_ n3_; clear hb hbox hg) | ((with_reducible refine gate_callee (f := 10) rfl ?_); refine goesL_ (some 25) rfl rfl Try.func10 (by kernel_rfl) rfl #[.slice A0 l0.length c0, .int .i64 1048576] rfl (by (try simp only [List.map_toArray, List.map_cons, List.map_nil]); first | done | rfl | (simp only [List.length_drop, List.length_take]; rfl)) ?_; (with_reducible refine (laws_szBlockS.calls _ _ l0 1048576 t298 _ ?side1 ?side2 A6.out).mono ?_); (case side1 => repeat (first | exact (Kd.C_below HR0.out HB.out) | (with_reducible refine Kd.C_alloc ?_ _) | (with_reducible refine Kd.C_drewN ?_ _) | (with_reducible refine Kd.C_drew ?_))); (case side2 => exact HC0.out); rintro e w' ⟨rfl, ⟨nd, rfl⟩⟩; refine ⟨_, rfl, ?_⟩; have hcz12_0 : w11.cell? ⟨gb297, 0, none⟩ = some (.slice A2_0 l2_0.length c2_0) := (blk_cell BK297.out 0).trans rfl; have hfz12_0 := blk_frozen BK297.out 0) | ((with_reducible refine gate_callee (f := 11) rfl ?_); refine goesL_ (some 30) rfl rfl Try.func11 (by kernel_rfl) rfl #[.agg #[.slice A2_0 l2_0.length c2_0], .int .i64 t298] rfl (by (try simp only [List.map_toArray, List.map_cons, List.map_nil]); first | done | rfl | (simp only [List.length_drop, List.length_take]; rfl)) ?_; (with_reducible refine (laws_szPool.calls _ _ l2_0 t298 t299 _ ?side1 ?side2 A9.out).mono ?_); (case side1 => repeat (first | exact (Kd.C_below HR2_0.out (by repeat (first | (with_reducible first | exact HB.out | apply below_alloc | apply pw_below_drewN | apply below_drew1 | refine below_set ?_ GE297.out) | exact HB.out))) | (with_reducible refine Kd.C_alloc ?_ _) | (with_reducible refine Kd.C_drewN ?_ _) | (with_reducible refine Kd.C_drew ?_))); (case side2 => exact HC2_0.out); rintro e w13 ⟨rfl, hb⟩; refine ⟨_, rfl, ?_⟩; have n0_ := Aside0.mk (blk_below (g := gb297) (o := .cells #[.slice A2_0 l2_0.length c2_0] 26 (0, 0)) (by (with_reducible repeat (first | refine blk_drewN ?_ _ | refine blk_drew ?_ | refine blk_alloc ?_ _)); exact BK297.out) hb); have n1_ := Aside0.mk (below_step (by repeat (first | (with_reducible first | exact HB.out | apply below_alloc | apply pw_below_drewN | apply below_drew1 | refine below_set ?_ GE297.out) | exact HB.out)) hb); clear BK297; clear HB; have BK297 := n0_; have HB := n1_; clear n0_ n1_; (try clear hb); (try clear hb2); (try clear hk); (try clear hi)))
        go_ret
        exact ⟨by first | rfl | (simp [errW_none, errW_some] <;> rfl) | (simp [*, errW_none, errW_some] <;> rfl), by repeat (first | (with_reducible first | exact HB.out | apply below_alloc | apply pw_below_drewN | apply below_drew1 | refine below_set ?_ GE297.out) | exact HB.out)⟩
      · rw [if_neg c10] at H
        have c10b0 : decide (t299 < 0) = false := decide_eq_false c10
        clear c10
        replace H := Option.bind_eq_some_iff.mp H
        obtain ⟨t300, A140, H⟩ := H
        replace H : ((laws_toIntS.f k l1).bind fun t303 => ((laws_toPool.f k l2_0).bind fun t306 => ((spec_LiarsIn.f k t300 t303 t306).bind fun bt309 => ((laws_toBlockS.f k l0).bind fun t313 => ((laws_toIntS.f k l1).bind fun t316 => ((laws_toPool.f k l2_0).bind fun t319 => ((impl_LiarsIn.f k t313 t316 t319).bind fun bt323 => ((laws_eqIntS.f k bt323.1 bt309.1).bind fun t327 => (if t327 = true then (laws_FnExactLiarsIn.j0 k l0 l1 bt309.1 bt309.2 t313 t316 bt323.1 bt323.2 (bt323.2 != bt309.2) l2_0 t319) else (laws_FnExactLiarsIn.j0 k l0 l1 bt309.1 bt309.2 t313 t316 bt323.1 bt323.2 true l2_0 t319)))))))))) = some r := H
        have A14 := Aside0.mk A140
        clear A140
        replace H := Option.bind_eq_some_iff.mp H
        obtain ⟨t303, A150, H⟩ := H
        replace H : ((laws_toPool.f k l2_0).bind fun t306 => ((spec_LiarsIn.f k t300 t303 t306).bind fun bt309 => ((laws_toBlockS.f k l0).bind fun t313 => ((laws_toIntS.f k l1).bind fun t316 => ((laws_toPool.f k l2_0).bind fun t319 => ((impl_LiarsIn.f k t313 t316 t319).bind fun bt323 => ((laws_eqIntS.f k bt323.1 bt309.1).bind fun t327 => (if t327 = true then (laws_FnExactLiarsIn.j0 k l0 l1 bt309.1 bt309.2 t313 t316 bt323.1 bt323.2 (bt323.2 != bt309.2) l2_0 t319) else (laws_FnExactLiarsIn.j0 k l0 l1 bt309.1 bt309.2 t313 t316 bt323.1 bt323.2 true l2_0 t319))))))))) = some r := H
        have A15 := Aside0.mk A150
        clear A150
        replace H := Option.bind_eq_some_iff.mp H
        obtain ⟨t306, A160, H⟩ := H
        replace H : ((spec_LiarsIn.f k t300 t303 t306).bind fun bt309 => ((laws_toBlockS.f k l0).bind fun t313 => ((laws_toIntS.f k l1).bind fun t316 => ((laws_toPool.f k l2_0).bind fun t319 => ((impl_LiarsIn.f k t313 t316 t319).bind fun bt323 => ((laws_eqIntS.f k bt323.1 bt309.1).bind fun t327 => (if t327 = true then (laws_FnExactLiarsIn.j0 k l0 l1 bt309.1 bt309.2 t313 t316 bt323.1 bt323.2 (bt323.2 != bt309.2) l2_0 t319) else (laws_FnExactLiarsIn.j0 k l0 l1 bt309.1 bt309.2 t313 t316 bt323.1 bt323.2 true l2_0 t319)))))))) = some r := H
        have A16 := Aside0.mk A160
        clear A160
        replace H := Option.bind_eq_some_iff.mp H
        obtain ⟨⟨t309, t312⟩, A170, H⟩ := H
        replace H : ((laws_toBlockS.f k l0).bind fun t313 => ((laws_toIntS.f k l1).bind fun t316 => ((laws_toPool.f k l2_0).bind fun t319 => ((impl_LiarsIn.f k t313 t316 t319).bind fun bt323 => ((laws_eqIntS.f k bt323.1 t309).bind fun t327 => (if t327 = true then (laws_FnExactLiarsIn.j0 k l0 l1 t309 t312 t313 t316 bt323.1 bt323.2 (bt323.2 != t312) l2_0 t319) else (laws_FnExactLiarsIn.j0 k l0 l1 t309 t312 t313 t316 bt323.1 bt323.2 true l2_0 t319))))))) = some r := H
        have A17 := Aside0.mk A170
        clear A170
        replace H := Option.bind_eq_some_iff.mp H
        obtain ⟨t313, A180, H⟩ := H
        replace H : ((laws_toIntS.f k l1).bind fun t316 => ((laws_toPool.f k l2_0).bind fun t319 => ((impl_LiarsIn.f k t313 t316 t319).bind fun bt323 => ((laws_eqIntS.f k bt323.1 t309).bind fun t327 => (if t327 = true then (laws_FnExactLiarsIn.j0 k l0 l1 t309 t312 t313 t316 bt323.1 bt323.2 (bt323.2 != t312) l2_0 t319) else (laws_FnExactLiarsIn.j0 k l0 l1 t309 t312 t313 t316 bt323.1 bt323.2 true l2_0 t319)))))) = some r := H
        have A18 := Aside0.mk A180
        clear A180
        replace H := Option.bind_eq_some_iff.mp H
        obtain ⟨t316, A190, H⟩ := H
        replace H : ((laws_toPool.f k l2_0).bind fun t319 => ((impl_LiarsIn.f k t313 t316 t319).bind fun bt323 => ((laws_eqIntS.f k bt323.1 t309).bind fun t327 => (if t327 = true then (laws_FnExactLiarsIn.j0 k l0 l1 t309 t312 t313 t316 bt323.1 bt323.2 (bt323.2 != t312) l2_0 t319) else (laws_FnExactLiarsIn.j0 k l0 l1 t309 t312 t313 t316 bt323.1 bt323.2 true l2_0 t319))))) = some r := H
        have A19 := Aside0.mk A190
        clear A190
        replace H := Option.bind_eq_some_iff.mp H
        obtain ⟨t319, A200, H⟩ := H
        replace H : ((impl_LiarsIn.f k t313 t316 t319).bind fun bt323 => ((laws_eqIntS.f k bt323.1 t309).bind fun t327 => (if t327 = true then (laws_FnExactLiarsIn.j0 k l0 l1 t309 t312 t313 t316 bt323.1 bt323.2 (bt323.2 != t312) l2_0 t319) else (laws_FnExactLiarsIn.j0 k l0 l1 t309 t312 t313 t316 bt323.1 bt323.2 true l2_0 t319)))) = some r := H
        have A20 := Aside0.mk A200
        clear A200
        replace H := Option.bind_eq_some_iff.mp H
        obtain ⟨⟨t323, t326⟩, A210, H⟩ := H
        replace H : ((laws_eqIntS.f k t323 t309).bind fun t327 => (if t327 = true then (laws_FnExactLiarsIn.j0 k l0 l1 t309 t312 t313 t316 t323 t326 (t326 != t312) l2_0 t319) else (laws_FnExactLiarsIn.j0 k l0 l1 t309 t312 t313 t316 t323 t326 true l2_0 t319))) = some r := H
        have A21 := Aside0.mk A210
        clear A210
        have HC22 := Aside0.mk H
        clear H
        go_enter Try.func4, Try.ntmps4
        try go_wp2_with (first | ((with_reducible refine gate_dst (N := 5) rfl ?_); refine box_event ?hg (N := 5) ?hd (cs := #[.slice A2_0 l2_0.length c2_0]) (t := 26) ?hr ?_; (case hd => rfl); (case hg => rfl); (case hr => first | (go_simp; done) | (go_simp; rfl)); intro gb297 hg w23 hbox hb; have n0_ := Aside0.mk (below_step (by repeat (first | (with_reducible first | exact HB.out | apply below_alloc | apply pw_below_drewN | apply below_drew1) | exact HB.out)) hb); have n1_ := Aside0.mk (hbox); have n2_ := Aside0.mk ((by rw [hg]; exact (below_size (by repeat (first | (with_reducible first | exact HB.out | apply below_alloc | apply pw_below_drewN | apply below_drew1) | exact HB.out))) : w.heap.size ≤ gb297)); have n3_ := Aside0.mk ((by rw [hg]; exact (below_size (by repeat (first | (with_reducible first | exact HB.out | apply below_alloc | apply pw_below_drewN | apply below_drew1) | exact HB.out))) : w.heap.size ≤ gb297)); clear HB; have HB := n0_; have BK297 := n1_; have GW297 := n2_; have GE297 := n3_; clear n0_ n1_ n2_ n3_; clear hb hbox hg) | ((with_reducible refine gate_callee (f := 10) rfl ?_); refine goesL_ (some 25) rfl rfl Try.func10 (by kernel_rfl) rfl #[.slice A0 l0.length c0, .int .i64 1048576] rfl (by (try simp only [List.map_toArray, List.map_cons, List.map_nil]); first | done | rfl | (simp only [List.length_drop, List.length_take]; rfl)) ?_; (with_reducible refine (laws_szBlockS.calls _ _ l0 1048576 t298 _ ?side1 ?side2 A6.out).mono ?_); (case side1 => repeat (first | exact (Kd.C_below HR0.out HB.out) | (with_reducible refine Kd.C_alloc ?_ _) | (with_reducible refine Kd.C_drewN ?_ _) | (with_reducible refine Kd.C_drew ?_))); (case side2 => exact HC0.out); rintro e w' ⟨rfl, ⟨nd, rfl⟩⟩; refine ⟨_, rfl, ?_⟩; (try (rw [drewN_self w23]; generalize hq_ : World.drewN w23 _ = w23; have n0_ : Aside0 (w23.heap[gb297]? = some (.cells #[.slice A2_0 l2_0.length c2_0] 26 (0, 0))) := ⟨by rw [← hq_]; exact (by (with_reducible repeat (first | refine blk_drewN ?_ _ | refine blk_drew ?_ | refine blk_alloc ?_ _)); exact BK297.out)⟩; have n1_ : Aside0 (Below w.heap.size w w23) := ⟨by rw [← hq_]; exact (by repeat (first | (with_reducible first | exact HB.out | apply below_alloc | apply pw_below_drewN | apply below_drew1 | refine below_set ?_ GE297.out) | exact HB.out))⟩; clear BK297 HB hq_; have BK297 := n0_; have HB := n1_; clear n0_ n1_)); have hcz24_0 : w23.cell? ⟨gb297, 0, none⟩ = some (.slice A2_0 l2_0.length c2_0) := (blk_cell BK297.out 0).trans rfl; have hfz24_0 := blk_frozen BK297.out 0) | ((with_reducible refine gate_callee (f := 11) rfl ?_); refine goesL_ (some 30) rfl rfl Try.func11 (by kernel_rfl) rfl #[.agg #[.slice A2_0 l2_0.length c2_0], .int .i64 t298] rfl (by (try simp only [List.map_toArray, List.map_cons, List.map_nil]); first | done | rfl | (simp only [List.length_drop, List.length_take]; rfl)) ?_; (with_reducible refine (laws_szPool.calls _ _ l2_0 t298 t299 _ ?side1 ?side2 A9.out).mono ?_); (case side1 => repeat (first | exact (Kd.C_below HR2_0.out HB.out) | (with_reducible refine Kd.C_alloc ?_ _) | (with_reducible refine Kd.C_drewN ?_ _) | (with_reducible refine Kd.C_drew ?_))); (case side2 => exact HC2_0.out); rintro e w25 ⟨rfl, hb⟩; refine ⟨_, rfl, ?_⟩; have n0_ := Aside0.mk (blk_below (g := gb297) (o := .cells #[.slice A2_0 l2_0.length c2_0] 26 (0, 0)) (by (with_reducible repeat (first | refine blk_drewN ?_ _ | refine blk_drew ?_ | refine blk_alloc ?_ _)); exact BK297.out) hb); have n1_ := Aside0.mk (below_step (by repeat (first | (with_reducible first | exact HB.out | apply below_alloc | apply pw_below_drewN | apply below_drew1 | refine below_set ?_ GE297.out) | exact HB.out)) hb); clear BK297; clear HB; have BK297 := n0_; have HB := n1_; clear n0_ n1_; (try clear hb); (try clear hb2); (try clear hk); (try clear hi)))
        have n0_ := Aside0.mk (blk_drew BK297.out)
        have n1_ := Aside0.mk (below_drew1 HB.out)
        clear BK297
        clear HB
        have BK297 := n0_
        have HB := n1_
        clear n0_ n1_
        refine start_ (n := 12) (S := fun w' => w'.cell? ⟨gb297, 0, none⟩ = some (.slice A2_0 l2_0.length c2_0)) (ds := []) #[false, false, false, false, false, false, false, false, false, false, false, false] (by kernel_rfl) rfl rfl ((blk_cell BK297.out 0).trans rfl) (fun hHeld => ?_); refine with_tabW laws_FnExactLiarsIn.tab10 laws_FnExactLiarsIn.bits10 (fun HT_ HW_ => ?_)
        generalize w25.drew = w26 at BK297 HB hHeld ⊢
        refine pure_ (i := 0) (N := some 34) (v := ?_) (a' := ?_) #[true, false, false, false, false, false, false, false, false, false, false, false] rfl rfl (any_of HT_.out (by kernel_rfl)) (fun _ _ _ h => h) (Or.inl ⟨by rfl, ?_⟩) ?_ ?_
        rotate_left
        · intro w'
          go_simp
          with_reducible rfl
        rotate_left
        · simp only [Act.put, List.setIfInBounds_toArray, List.set_cons_zero, List.set_cons_succ, i64_w, i32_w]
          rfl
        refine pure_ (i := 2) (N := some 36) (v := ?_) (a' := ?_) #[true, false, true, false, false, false, false, false, false, false, false, false] rfl rfl (any_of HT_.out (by kernel_rfl)) (fun _ _ _ h => h) (Or.inl ⟨by rfl, ?_⟩) ?_ ?_
        rotate_left
        · intro w'
          go_simp
          with_reducible rfl
        rotate_left
        · simp only [Act.put, List.setIfInBounds_toArray, List.set_cons_zero, List.set_cons_succ, i64_w, i32_w]
          rfl
        refine take_ (i := 4) (N := some 38) (v := ?_) (a' := ?_) #[true, false, true, false, true, false, false, false, false, false, false, false] rfl rfl (take_ofW HT_.out HW_.out (by kernel_rfl)) (fun _ _ _ h => h) (Or.inl ⟨by rfl, ?_⟩) hHeld ?_ ?_
        rotate_left
        · intro w' s0
          go_simp
          with_reducible rfl
        rotate_left
        · simp only [Act.put, List.setIfInBounds_toArray, List.set_cons_zero, List.set_cons_succ, i64_w, i32_w]
          rfl
        refine one_ (i := 1) (N := some 35) #[true, true, true, false, true, false, false, false, false, false, false, false] rfl rfl (one_of HT_.out (by kernel_rfl)) (by decide) (fun K hK => ?_)
        refine goes_ Try.func13 (by kernel_rfl) rfl #[.slice A0 l0.length c0] (by rfl) rfl rfl (by (try simp only [List.map_toArray, List.map_cons, List.map_nil]); first | done | rfl | (simp only [List.length_drop, List.length_take]; rfl)) ?_
        with_reducible refine (laws_toBlockS.calls k _ _ l0 t300 _ ?side1 ?side2 A14.out).mono ?_
        (case side1 => repeat (first | exact (Kd.C_below HR0.out HB.out) | (with_reducible refine Kd.C_alloc ?_ _) | (with_reducible refine Kd.C_drewN ?_ _) | (with_reducible refine Kd.C_drew ?_)))
        (case side2 => exact HC0.out)
        rintro e w27 ⟨v301, rfl, ho0, hb⟩
        refine ⟨_, rfl, ?_⟩
        have n0_ := Aside0.mk (Kd.R_lower ho0 (below_size (by repeat (first | (with_reducible first | exact HB.out | apply below_alloc | apply pw_below_drewN | apply below_drew1 | refine below_set ?_ GE297.out) | exact HB.out))))
        have n1_ := Aside0.mk (blk_below (g := gb297) (o := .cells #[.slice A2_0 l2_0.length c2_0] 26 (0, 0)) (by (with_reducible repeat (first | refine blk_drewN ?_ _ | refine blk_drew ?_ | refine blk_alloc ?_ _)); exact BK297.out) hb)
        have n2_ := Aside0.mk (below_step (by repeat (first | (with_reducible first | exact HB.out | apply below_alloc | apply pw_below_drewN | apply below_drew1 | refine below_set ?_ GE297.out) | exact HB.out)) hb)
        clear BK297
        clear HB
        have HO302 := n0_
        have BK297 := n1_
        have HB := n2_
        clear n0_ n1_ n2_
        (try clear hb)
        (try clear hb2)
        (try clear hk)
        (try clear hi)
        (try clear ho0)
        refine hK.out _ _ ((blk_cell BK297.out 0).trans rfl) (fun hHeld => ?_)
        clear hK K
        refine norm_ (a' := ?_) ?_ ?_
        rotate_left
        · show Act.put _ (some 35) _ = _
          simp only [Act.put, List.setIfInBounds_toArray, List.set_cons_zero, List.set_cons_succ, i64_w, i32_w]
          rfl
        refine one_ (i := 3) (N := some 37) #[true, true, true, true, true, false, false, false, false, false, false, false] rfl rfl (one_of HT_.out (by kernel_rfl)) (by decide) (fun K hK => ?_)
        refine goes_ Try.func14 (by kernel_rfl) rfl #[.slice A1 l1.length c1] (by rfl) rfl rfl (by (try simp only [List.map_toArray, List.map_cons, List.map_nil]); first | done | rfl | (simp only [List.length_drop, List.length_take]; rfl)) ?_
        with_reducible refine (laws_toIntS.calls k _ _ l1 t303 _ ?side1 ?side2 A15.out).mono ?_
        (case side1 => repeat (first | exact (Kd.C_below HR1.out HB.out) | (with_reducible refine Kd.C_alloc ?_ _) | (with_reducible refine Kd.C_drewN ?_ _) | (with_reducible refine Kd.C_drew ?_)))
        (case side2 => exact HC1.out)
        rintro e w28 ⟨v304, rfl, ho0, hb⟩
        refine ⟨_, rfl, ?_⟩
        have n0_ := Aside0.mk (Kd.R_below (by (with_reducible repeat (first | apply Kd.R_alloc | apply Kd.R_drewN | apply Kd.R_drew)); exact HO302.out) hb)
        have n1_ := Aside0.mk (Kd.R_lower ho0 (below_size (by repeat (first | (with_reducible first | exact HB.out | apply below_alloc | apply pw_below_drewN | apply below_drew1 | refine below_set ?_ GE297.out) | exact HB.out))))
        have n2_ := Aside0.mk (blk_below (g := gb297) (o := .cells #[.slice A2_0 l2_0.length c2_0] 26 (0, 0)) (by (with_reducible repeat (first | refine blk_drewN ?_ _ | refine blk_drew ?_ | refine blk_alloc ?_ _)); exact BK297.out) hb)
        have n3_ := Aside0.mk (below_step (by repeat (first | (with_reducible first | exact HB.out | apply below_alloc | apply pw_below_drewN | apply below_drew1 | refine below_set ?_ GE297.out) | exact HB.out)) hb)
        clear HO302
        clear BK297
        clear HB
        have HO302 := n0_
        have HO305 := n1_
        have BK297 := n2_
        have HB := n3_
        clear n0_ n1_ n2_ n3_
        (try clear hb)
        (try clear hb2)
        (try clear hk)
        (try clear hi)
        (try clear ho0)
        refine hK.out _ _ ((blk_cell BK297.out 0).trans rfl) (fun hHeld => ?_)
        clear hK K
        refine norm_ (a' := ?_) ?_ ?_
        rotate_left
        · show Act.put _ (some 37) _ = _
          simp only [Act.put, List.setIfInBounds_toArray, List.set_cons_zero, List.set_cons_succ, i64_w, i32_w]
          rfl
        refine one_ (i := 5) (N := some 39) #[true, true, true, true, true, true, false, false, false, false, false, false] rfl rfl (one_of HT_.out (by kernel_rfl)) (by decide) (fun K hK => ?_)
        refine goes_ Try.func15 (by kernel_rfl) rfl #[.agg #[.slice A2_0 l2_0.length c2_0]] (by rfl) rfl rfl (by (try simp only [List.map_toArray, List.map_cons, List.map_nil]); first | done | rfl | (simp only [List.length_drop, List.length_take]; rfl)) ?_
        with_reducible refine (laws_toPool.calls k _ _ l2_0 t306 _ ?side1 ?side2 A16.out).mono ?_
        (case side1 => repeat (first | exact (Kd.C_below HR2_0.out HB.out) | (with_reducible refine Kd.C_alloc ?_ _) | (with_reducible refine Kd.C_drewN ?_ _) | (with_reducible refine Kd.C_drew ?_)))
        (case side2 => exact HC2_0.out)
        rintro e w29 ⟨v307, rfl, ho0, hb⟩
        refine ⟨_, rfl, ?_⟩
        have n0_ := Aside0.mk (Kd.R_below (by (with_reducible repeat (first | apply Kd.R_alloc | apply Kd.R_drewN | apply Kd.R_drew)); exact HO302.out) hb)
        have n1_ := Aside0.mk (Kd.R_below (by (with_reducible repeat (first | apply Kd.R_alloc | apply Kd.R_drewN | apply Kd.R_drew)); exact HO305.out) hb)
        have n2_ := Aside0.mk (Kd.R_lower ho0 (below_size (by repeat (first | (with_reducible first | exact HB.out | apply below_alloc | apply pw_below_drewN | apply below_drew1 | refine below_set ?_ GE297.out) | exact HB.out))))
        have n3_ := Aside0.mk (blk_below (g := gb297) (o := .cells #[.slice A2_0 l2_0.length c2_0] 26 (0, 0)) (by (with_reducible repeat (first | refine blk_drewN ?_ _ | refine blk_drew ?_ | refine blk_alloc ?_ _)); exact BK297.out) hb)
        have n4_ := Aside0.mk (below_step (by repeat (first | (with_reducible first | exact HB.out | apply below_alloc | apply pw_below_drewN | apply below_drew1 | refine below_set ?_ GE297.out) | exact HB.out)) hb)
        clear HO302
        clear HO305
        clear BK297
        clear HB
        have HO302 := n0_
        have HO305 := n1_
        have HO308 := n2_
        have BK297 := n3_
        have HB := n4_
        clear n0_ n1_ n2_ n3_ n4_
        (try clear hb)
        (try clear hb2)
        (try clear hk)
        (try clear hi)
        (try clear ho0)
        obtain ⟨Ao30, co30, eo30⟩ := Kd.R_slice HO302.out
        (first | subst eo30 | (injection eo30 with f1_ f2_ f3_; have f4_ := f1_.symm; have f5_ := f3_.symm; clear f1_ f2_ f3_; subst f4_; subst f5_))
        obtain ⟨Ao31, co31, eo31⟩ := Kd.R_slice HO305.out
        (first | subst eo31 | (injection eo31 with f1_ f2_ f3_; have f4_ := f1_.symm; have f5_ := f3_.symm; clear f1_ f2_ f3_; subst f4_; subst f5_))
        obtain ⟨Ao32, co32, eo32⟩ := Kd.R_slice HO308.out
        (first | subst eo32 | (injection eo32 with f1_ f2_ f3_; have f4_ := f1_.symm; have f5_ := f3_.symm; clear f1_ f2_ f3_; subst f4_; subst f5_))
        refine hK.out _ _ ((blk_cell BK297.out 0).trans rfl) (fun hHeld => ?_)
        clear hK K
        refine norm_ (a' := ?_) ?_ ?_
        rotate_left
        · show Act.put _ (some 39) _ = _
          simp only [Act.put, List.setIfInBounds_toArray, List.set_cons_zero, List.set_cons_succ, i64_w, i32_w]
          rfl
        refine one_ (i := 6) (N := some 40) #[true, true, true, true, true, true, true, false, false, false, false, false] rfl rfl (one_of HT_.out (by kernel_rfl)) (by decide) (fun K hK => ?_)
        refine goes_ Try.func20 (by kernel_rfl) rfl #[.slice Ao30 t300.length co30, .slice Ao31 t303.length co31, .agg #[.slice Ao32 t306.length co32]] (by rfl) rfl rfl (by (try simp only [List.map_toArray, List.map_cons, List.map_nil]); first | done | rfl | (simp only [List.length_drop, List.length_take]; rfl)) ?_
        with_reducible refine (spec_LiarsIn.calls k _ _ t300 _ _ t303 _ _ t306 t309 t312 _ ?side1 ?side2 ?side3 ?side4 ?side5 ?side6 A17.out).mono ?_
        (case side1 => repeat (first | exact (Kd.R_reads' HO302.out).2.2 | (with_reducible refine Kd.C_alloc ?_ _) | (with_reducible refine Kd.C_drewN ?_ _) | (with_reducible refine Kd.C_drew ?_)))
        (case side2 => exact (Kd.R_reads' HO302.out).2.1)
        (case side3 => repeat (first | exact (Kd.R_reads' HO305.out).2.2 | (with_reducible refine Kd.C_alloc ?_ _) | (with_reducible refine Kd.C_drewN ?_ _) | (with_reducible refine Kd.C_drew ?_)))
        (case side4 => exact (Kd.R_reads' HO305.out).2.1)
        (case side5 => repeat (first | exact (Kd.R_reads' HO308.out).2.2 | (with_reducible refine Kd.C_alloc ?_ _) | (with_reducible refine Kd.C_drewN ?_ _) | (with_reducible refine Kd.C_drew ?_)))
        (case side6 => exact (Kd.R_reads' HO308.out).2.1)
        rintro e w33 ⟨v310, rfl, ho0, hb⟩
        refine ⟨_, rfl, ?_⟩
        have n0_ := Aside0.mk (Kd.R_below (by (with_reducible repeat (first | apply Kd.R_alloc | apply Kd.R_drewN | apply Kd.R_drew)); exact HO302.out) hb)
        have n1_ := Aside0.mk (Kd.R_elder' (by (with_reducible repeat (first | apply Kd.R_alloc | apply Kd.R_drewN | apply Kd.R_drew)); exact HO305.out) (Kd.R_base ho0) hb)
        have n2_ := Aside0.mk (Kd.R_below (by (with_reducible repeat (first | apply Kd.R_alloc | apply Kd.R_drewN | apply Kd.R_drew)); exact HO308.out) hb)
        have n3_ := Aside0.mk (Kd.R_lower (Kd.R_new' ho0 (Kd.R_lt (by (with_reducible repeat (first | apply Kd.R_alloc | apply Kd.R_drewN | apply Kd.R_drew)); exact HO305.out))) (below_size (by repeat (first | (with_reducible first | exact HB.out | apply below_alloc | apply pw_below_drewN | apply below_drew1 | refine below_set ?_ GE297.out) | exact HB.out))))
        have n4_ := Aside0.mk (blk_below (g := gb297) (o := .cells #[.slice A2_0 l2_0.length c2_0] 26 (0, 0)) (by (with_reducible repeat (first | refine blk_drewN ?_ _ | refine blk_drew ?_ | refine blk_alloc ?_ _)); exact BK297.out) hb)
        have n5_ := Aside0.mk (below_step (by repeat (first | (with_reducible first | exact HB.out | apply below_alloc | apply pw_below_drewN | apply below_drew1 | refine below_set ?_ GE297.out) | exact HB.out)) hb)
        clear HO302
        clear HO305
        clear HO308
        clear BK297
        clear HB
        have HO302 := n0_
        have HO305 := n1_
        have HO308 := n2_
        have HO311 := n3_
        have BK297 := n4_
        have HB := n5_
        clear n0_ n1_ n2_ n3_ n4_ n5_
        (try clear hb)
        (try clear hb2)
        (try clear hk)
        (try clear hi)
        (try clear ho0)
        refine hK.out _ _ ((blk_cell BK297.out 0).trans rfl) (fun hHeld => ?_)
        clear hK K
        refine norm_ (a' := ?_) ?_ ?_
        rotate_left
        · show Act.put _ (some 40) _ = _
          simp only [Act.put, List.setIfInBounds_toArray, List.set_cons_zero, List.set_cons_succ, i64_w, i32_w]
          rfl
        refine pure_ (i := 7) (N := some 33) (v := ?_) (a' := ?_) #[true, true, true, true, true, true, true, true, false, false, false, false] rfl rfl (any_of HT_.out (by kernel_rfl)) (fun _ _ _ h => h) (Or.inl ⟨by rfl, ?_⟩) ?_ ?_
        rotate_left
        · intro w'
          go_simp
          with_reducible rfl
        rotate_left
        · simp only [Act.put, List.setIfInBounds_toArray, List.set_cons_zero, List.set_cons_succ, i64_w, i32_w]
          rfl
        refine pure_ (i := 8) (N := some 41) (v := ?_) (a' := ?_) #[true, true, true, true, true, true, true, true, true, false, false, false] rfl rfl (any_of HT_.out (by kernel_rfl)) (fun _ _ _ h => h) (Or.inl ⟨by rfl, ?_⟩) ?_ ?_
        rotate_left
        · intro w'
          go_simp
          with_reducible rfl
        rotate_left
        · simp only [Act.put, List.setIfInBounds_toArray, List.set_cons_zero, List.set_cons_succ, i64_w, i32_w]
          rfl
        refine pure_ (i := 9) (N := some 42) (v := ?_) (a' := ?_) #[true, true, true, true, true, true, true, true, true, true, false, false] rfl rfl (any_of HT_.out (by kernel_rfl)) (fun _ _ _ h => h) (Or.inl ⟨by rfl, ?_⟩) ?_ ?_
        rotate_left
        · intro w'
          go_simp
          with_reducible rfl
        rotate_left
        · simp only [Act.put, List.setIfInBounds_toArray, List.set_cons_zero, List.set_cons_succ, i64_w, i32_w]
          rfl
        refine pure_ (i := 10) (N := some 8) (v := ?_) (a' := ?_) #[true, true, true, true, true, true, true, true, true, true, true, false] rfl rfl (any_of HT_.out (by kernel_rfl)) (fun _ _ _ h => h) (Or.inl ⟨by rfl, ?_⟩) ?_ ?_
        rotate_left
        · intro w'
          go_simp
          with_reducible rfl
        rotate_left
        · simp only [Act.put, List.setIfInBounds_toArray, List.set_cons_zero, List.set_cons_succ, i64_w, i32_w]
          rfl
        refine pure_ (i := 11) (N := some 9) (v := ?_) (a' := ?_) #[true, true, true, true, true, true, true, true, true, true, true, true] rfl rfl (any_of HT_.out (by kernel_rfl)) (fun _ _ _ h => h) (Or.inl ⟨by rfl, ?_⟩) ?_ ?_
        rotate_left
        · intro w'
          go_simp
          with_reducible rfl
        rotate_left
        · simp only [Act.put, List.setIfInBounds_toArray, List.set_cons_zero, List.set_cons_succ, i64_w, i32_w]
          rfl
        refine done_ (done_of HT_.out (by kernel_rfl)) ?_
        go_upto_region 15 with (first | ((with_reducible refine gate_callee (f := 13) rfl ?_); refine goesL_ (some 44) rfl rfl Try.func13 (by kernel_rfl) rfl #[.slice A0 l0.length c0] rfl (by (try simp only [List.map_toArray, List.map_cons, List.map_nil]); first | done | rfl | (simp only [List.length_drop, List.length_take]; rfl)) ?_; (with_reducible refine (laws_toBlockS.calls k _ _ l0 t313 _ ?side1 ?side2 A18.out).mono ?_); (case side1 => repeat (first | exact (Kd.C_below HR0.out HB.out) | (with_reducible refine Kd.C_alloc ?_ _) | (with_reducible refine Kd.C_drewN ?_ _) | (with_reducible refine Kd.C_drew ?_))); (case side2 => exact HC0.out); rintro e w34 ⟨v314, rfl, ho0, hb⟩; refine ⟨_, rfl, ?_⟩; have n0_ := Aside0.mk (Kd.R_elder' (by (with_reducible repeat (first | apply Kd.R_alloc | apply Kd.R_drewN | apply Kd.R_drew)); exact HO302.out) (Kd.R_base ho0) hb); have n1_ := Aside0.mk (Kd.R_below (by (with_reducible repeat (first | apply Kd.R_alloc | apply Kd.R_drewN | apply Kd.R_drew)); exact HO305.out) hb); have n2_ := Aside0.mk (Kd.R_below (by (with_reducible repeat (first | apply Kd.R_alloc | apply Kd.R_drewN | apply Kd.R_drew)); exact HO308.out) hb); have n3_ := Aside0.mk (Kd.R_below (by (with_reducible repeat (first | apply Kd.R_alloc | apply Kd.R_drewN | apply Kd.R_drew)); exact HO311.out) hb); have n4_ := Aside0.mk (Kd.R_lower (Kd.R_new' ho0 (Kd.R_lt (by (with_reducible repeat (first | apply Kd.R_alloc | apply Kd.R_drewN | apply Kd.R_drew)); exact HO302.out))) (below_size (by repeat (first | (with_reducible first | exact HB.out | apply below_alloc | apply pw_below_drewN | apply below_drew1 | refine below_set ?_ GE297.out) | exact HB.out)))); have n5_ := Aside0.mk (blk_below (g := gb297) (o := .cells #[.slice A2_0 l2_0.length c2_0] 26 (0, 0)) (by (with_reducible repeat (first | refine blk_drewN ?_ _ | refine blk_drew ?_ | refine blk_alloc ?_ _)); exact BK297.out) hb); have n6_ := Aside0.mk (below_step (by repeat (first | (with_reducible first | exact HB.out | apply below_alloc | apply pw_below_drewN | apply below_drew1 | refine below_set ?_ GE297.out) | exact HB.out)) hb); clear HO302; clear HO305; clear HO308; clear HO311; clear BK297; clear HB; have HO302 := n0_; have HO305 := n1_; have HO308 := n2_; have HO311 := n3_; have HO315 := n4_; have BK297 := n5_; have HB := n6_; clear n0_ n1_ n2_ n3_ n4_ n5_ n6_; (try clear hb); (try clear hb2); (try clear hk); (try clear hi); (try clear ho0)) | ((with_reducible refine gate_callee (f := 14) rfl ?_); refine goesL_ (some 46) rfl rfl Try.func14 (by kernel_rfl) rfl #[.slice A1 l1.length c1] rfl (by (try simp only [List.map_toArray, List.map_cons, List.map_nil]); first | done | rfl | (simp only [List.length_drop, List.length_take]; rfl)) ?_; (with_reducible refine (laws_toIntS.calls k _ _ l1 t316 _ ?side1 ?side2 A19.out).mono ?_); (case side1 => repeat (first | exact (Kd.C_below HR1.out HB.out) | (with_reducible refine Kd.C_alloc ?_ _) | (with_reducible refine Kd.C_drewN ?_ _) | (with_reducible refine Kd.C_drew ?_))); (case side2 => exact HC1.out); rintro e w35 ⟨v317, rfl, ho0, hb⟩; refine ⟨_, rfl, ?_⟩; have n0_ := Aside0.mk (Kd.R_below (by (with_reducible repeat (first | apply Kd.R_alloc | apply Kd.R_drewN | apply Kd.R_drew)); exact HO302.out) hb); have n1_ := Aside0.mk (Kd.R_elder' (by (with_reducible repeat (first | apply Kd.R_alloc | apply Kd.R_drewN | apply Kd.R_drew)); exact HO305.out) (Kd.R_base ho0) hb); have n2_ := Aside0.mk (Kd.R_below (by (with_reducible repeat (first | apply Kd.R_alloc | apply Kd.R_drewN | apply Kd.R_drew)); exact HO308.out) hb); have n3_ := Aside0.mk (Kd.R_elder' (by (with_reducible repeat (first | apply Kd.R_alloc | apply Kd.R_drewN | apply Kd.R_drew)); exact HO311.out) (Kd.R_base ho0) hb); have n4_ := Aside0.mk (Kd.R_below (by (with_reducible repeat (first | apply Kd.R_alloc | apply Kd.R_drewN | apply Kd.R_drew)); exact HO315.out) hb); have n5_ := Aside0.mk (Kd.R_lower (Kd.R_new' (Kd.R_new' ho0 (Kd.R_lt (by (with_reducible repeat (first | apply Kd.R_alloc | apply Kd.R_drewN | apply Kd.R_drew)); exact HO305.out))) (Kd.R_lt (by (with_reducible repeat (first | apply Kd.R_alloc | apply Kd.R_drewN | apply Kd.R_drew)); exact HO311.out))) (below_size (by repeat (first | (with_reducible first | exact HB.out | apply below_alloc | apply pw_below_drewN | apply below_drew1 | refine below_set ?_ GE297.out) | exact HB.out)))); have n6_ := Aside0.mk (blk_below (g := gb297) (o := .cells #[.slice A2_0 l2_0.length c2_0] 26 (0, 0)) (by (with_reducible repeat (first | refine blk_drewN ?_ _ | refine blk_drew ?_ | refine blk_alloc ?_ _)); exact BK297.out) hb); have n7_ := Aside0.mk (below_step (by repeat (first | (with_reducible first | exact HB.out | apply below_alloc | apply pw_below_drewN | apply below_drew1 | refine below_set ?_ GE297.out) | exact HB.out)) hb); clear HO302; clear HO305; clear HO308; clear HO311; clear HO315; clear BK297; clear HB; have HO302 := n0_; have HO305 := n1_; have HO308 := n2_; have HO311 := n3_; have HO315 := n4_; have HO318 := n5_; have BK297 := n6_; have HB := n7_; clear n0_ n1_ n2_ n3_ n4_ n5_ n6_ n7_; (try clear hb); (try clear hb2); (try clear hk); (try clear hi); (try clear ho0); have hcz36_0 : w35.cell? ⟨gb297, 0, none⟩ = some (.slice A2_0 l2_0.length c2_0) := (blk_cell BK297.out 0).trans rfl; have hfz36_0 := blk_frozen BK297.out 0) | ((with_reducible refine gate_callee (f := 15) rfl ?_); refine goesL_ (some 48) rfl rfl Try.func15 (by kernel_rfl) rfl #[.agg #[.slice A2_0 l2_0.length c2_0]] rfl (by (try simp only [List.map_toArray, List.map_cons, List.map_nil]); first | done | rfl | (simp only [List.length_drop, List.length_take]; rfl)) ?_; (with_reducible refine (laws_toPool.calls k _ _ l2_0 t319 _ ?side1 ?side2 A20.out).mono ?_); (case side1 => repeat (first | exact (Kd.C_below HR2_0.out HB.out) | (with_reducible refine Kd.C_alloc ?_ _) | (with_reducible refine Kd.C_drewN ?_ _) | (with_reducible refine Kd.C_drew ?_))); (case side2 => exact HC2_0.out); rintro e w37 ⟨v320, rfl, ho0, hb⟩; refine ⟨_, rfl, ?_⟩; have n0_ := Aside0.mk (Kd.R_below (by (with_reducible repeat (first | apply Kd.R_alloc | apply Kd.R_drewN | apply Kd.R_drew)); exact HO302.out) hb); have n1_ := Aside0.mk (Kd.R_below (by (with_reducible repeat (first | apply Kd.R_alloc | apply Kd.R_drewN | apply Kd.R_drew)); exact HO305.out) hb); have n2_ := Aside0.mk (Kd.R_elder' (by (with_reducible repeat (first | apply Kd.R_alloc | apply Kd.R_drewN | apply Kd.R_drew)); exact HO308.out) (Kd.R_base ho0) hb); have n3_ := Aside0.mk (Kd.R_below (by (with_reducible repeat (first | apply Kd.R_alloc | apply Kd.R_drewN | apply Kd.R_drew)); exact HO311.out) hb); have n4_ := Aside0.mk (Kd.R_below (by (with_reducible repeat (first | apply Kd.R_alloc | apply Kd.R_drewN | apply Kd.R_drew)); exact HO315.out) hb); have n5_ := Aside0.mk (Kd.R_below (by (with_reducible repeat (first | apply Kd.R_alloc | apply Kd.R_drewN | apply Kd.R_drew)); exact HO318.out) hb); have n6_ := Aside0.mk (Kd.R_lower (Kd.R_new' ho0 (Kd.R_lt (by (with_reducible repeat (first | apply Kd.R_alloc | apply Kd.R_drewN | apply Kd.R_drew)); exact HO308.out))) (below_size (by repeat (first | (with_reducible first | exact HB.out | apply below_alloc | apply pw_below_drewN | apply below_drew1 | refine below_set ?_ GE297.out) | exact HB.out)))); have n7_ := Aside0.mk (blk_below (g := gb297) (o := .cells #[.slice A2_0 l2_0.length c2_0] 26 (0, 0)) (by (with_reducible repeat (first | refine blk_drewN ?_ _ | refine blk_drew ?_ | refine blk_alloc ?_ _)); exact BK297.out) hb); have n8_ := Aside0.mk (below_step (by repeat (first | (with_reducible first | exact HB.out | apply below_alloc | apply pw_below_drewN | apply below_drew1 | refine below_set ?_ GE297.out) | exact HB.out)) hb); clear HO302; clear HO305; clear HO308; clear HO311; clear HO315; clear HO318; clear BK297; clear HB; have HO302 := n0_; have HO305 := n1_; have HO308 := n2_; have HO311 := n3_; have HO315 := n4_; have HO318 := n5_; have HO321 := n6_; have BK297 := n7_; have HB := n8_; clear n0_ n1_ n2_ n3_ n4_ n5_ n6_ n7_ n8_; (try clear hb); (try clear hb2); (try clear hk); (try clear hi); (try clear ho0)) | ((with_reducible refine gate_dst (N := 12) rfl ?_); refine box_event ?hg (N := 12) ?hd (cs := #[.slice none 0 0]) (t := 35) ?hr ?_; (case hd => rfl); (case hg => rfl); (case hr => first | (go_simp; done) | (go_simp; rfl)); intro gb322 hg w38 hbox hb; have n0_ := Aside0.mk (Kd.R_below (by (with_reducible repeat (first | apply Kd.R_alloc | apply Kd.R_drewN | apply Kd.R_drew)); exact HO302.out) hb); have n1_ := Aside0.mk (Kd.R_below (by (with_reducible repeat (first | apply Kd.R_alloc | apply Kd.R_drewN | apply Kd.R_drew)); exact HO305.out) hb); have n2_ := Aside0.mk (Kd.R_below (by (with_reducible repeat (first | apply Kd.R_alloc | apply Kd.R_drewN | apply Kd.R_drew)); exact HO308.out) hb); have n3_ := Aside0.mk (Kd.R_below (by (with_reducible repeat (first | apply Kd.R_alloc | apply Kd.R_drewN | apply Kd.R_drew)); exact HO311.out) hb); have n4_ := Aside0.mk (Kd.R_below (by (with_reducible repeat (first | apply Kd.R_alloc | apply Kd.R_drewN | apply Kd.R_drew)); exact HO315.out) hb); have n5_ := Aside0.mk (Kd.R_below (by (with_reducible repeat (first | apply Kd.R_alloc | apply Kd.R_drewN | apply Kd.R_drew)); exact HO318.out) hb); have n6_ := Aside0.mk (Kd.R_below (by (with_reducible repeat (first | apply Kd.R_alloc | apply Kd.R_drewN | apply Kd.R_drew)); exact HO321.out) hb); have n7_ := Aside0.mk (blk_below (g := gb297) (o := .cells #[.slice A2_0 l2_0.length c2_0] 26 (0, 0)) (by (with_reducible repeat (first | refine blk_drewN ?_ _ | refine blk_drew ?_ | refine blk_alloc ?_ _)); exact BK297.out) hb); have n8_ := Aside0.mk (below_step (by repeat (first | (with_reducible first | exact HB.out | apply below_alloc | apply pw_below_drewN | apply below_drew1 | refine below_set ?_ GE297.out) | exact HB.out)) hb); have n9_ := Aside0.mk (hbox); have n10_ := Aside0.mk ((by rw [hg]; exact (below_size (by repeat (first | (with_reducible first | exact HB.out | apply below_alloc | apply pw_below_drewN | apply below_drew1 | refine below_set ?_ GE297.out) | exact HB.out))) : w.heap.size ≤ gb322)); have n11_ := Aside0.mk ((by rw [hg]; exact (below_size (by repeat (first | (with_reducible first | exact HB.out | apply below_alloc | apply pw_below_drewN | apply below_drew1 | refine below_set ?_ GE297.out) | exact HB.out))) : w.heap.size ≤ gb322)); have n12_ := Aside0.mk ((by rw [hg]; exact Nat.ne_of_lt (blk_lt (g := gb297) (o := .cells #[.slice A2_0 l2_0.length c2_0] 26 (0, 0)) (by (with_reducible repeat (first | refine blk_drewN ?_ _ | refine blk_drew ?_ | refine blk_alloc ?_ _)); exact BK297.out)) : gb297 ≠ gb322)); have n13_ := Aside0.mk ((by rw [hg]; exact Nat.ne_of_gt (blk_lt (g := gb297) (o := .cells #[.slice A2_0 l2_0.length c2_0] 26 (0, 0)) (by (with_reducible repeat (first | refine blk_drewN ?_ _ | refine blk_drew ?_ | refine blk_alloc ?_ _)); exact BK297.out)) : gb322 ≠ gb297)); clear HO302; clear HO305; clear HO308; clear HO311; clear HO315; clear HO318; clear HO321; clear BK297; clear HB; have HO302 := n0_; have HO305 := n1_; have HO308 := n2_; have HO311 := n3_; have HO315 := n4_; have HO318 := n5_; have HO321 := n6_; have BK297 := n7_; have HB := n8_; have BK322 := n9_; have GW322 := n10_; have GE322 := n11_; have NB297_322 := n12_; have NB322_297 := n13_; clear n0_ n1_ n2_ n3_ n4_ n5_ n6_ n7_ n8_ n9_ n10_ n11_ n12_ n13_; clear hb hbox hg; obtain ⟨Ao39, co39, eo39⟩ := Kd.R_slice HO321.out; subst eo39; have hnb40 := NB322_297.out; have hnc40 := NB297_322.out; have hcz41_0 : w38.cell? ⟨gb322, 0, none⟩ = some (.slice none 0 0) := (blk_cell BK322.out 0).trans rfl; have hfz41_0 := blk_frozen BK322.out 0; obtain ⟨Ao42, co42, eo42⟩ := Kd.R_slice HO315.out; subst eo42; obtain ⟨Ao43, co43, eo43⟩ := Kd.R_slice HO318.out; subst eo43) | ((with_reducible refine gate_callee (f := 21) rfl ?_); refine goesL_ (some 53) rfl rfl Try.func21 (by kernel_rfl) rfl #[.slice Ao42 t313.length co42, .slice Ao43 t316.length co43, .agg #[.slice Ao39 t319.length co39]] rfl (by (try simp only [List.map_toArray, List.map_cons, List.map_nil]); first | done | rfl | (simp only [List.length_drop, List.length_take]; rfl)) ?_; (with_reducible refine (impl_LiarsIn.calls k _ _ t313 _ _ t316 _ _ t319 t323 t326 _ ?side1 ?side2 ?side3 ?side4 ?side5 ?side6 A21.out).mono ?_); (case side1 => refine (Kd.R_reads' (e := 72) (base := w.heap.size) (ok := fun k_ => (True ∧ some k_ ≠ (.slice Ao30 t300.length co30 : Value).ownBlock)) (n := t313.length) (c := co42) ?_).2.2; exact (by (with_reducible repeat (first | apply Kd.R_alloc | apply Kd.R_drewN | apply Kd.R_drew)); exact (Kd.R_mono (Kd.R_far (p := ⟨gb322, 0, none⟩) (Kd.R_types HO315.out BK322.out (by decide)) (fun _ hk => hk.2) (.slice Ao39 t319.length co39)) (fun _ h_ => h_.1)))); (case side2 => exact (Kd.R_reads' HO315.out).2.1); (case side3 => refine (Kd.R_reads' (e := 3) (base := w.heap.size) (ok := fun k_ => ((True ∧ some k_ ≠ (.slice Ao31 t303.length co31 : Value).ownBlock) ∧ some k_ ≠ (v310 : Value).ownBlock)) (n := t316.length) (c := co43) ?_).2.2; exact (by (with_reducible repeat (first | apply Kd.R_alloc | apply Kd.R_drewN | apply Kd.R_drew)); exact (Kd.R_mono (Kd.R_far (p := ⟨gb322, 0, none⟩) (Kd.R_types HO318.out BK322.out (by decide)) (fun _ hk => hk.2) (.slice Ao39 t319.length co39)) (fun _ h_ => h_.1)))); (case side4 => exact (Kd.R_reads' HO318.out).2.1); (case side5 => refine (Kd.R_reads' (e := 67) (base := w.heap.size) (ok := fun k_ => (True ∧ some k_ ≠ (.slice Ao32 t306.length co32 : Value).ownBlock)) (n := t319.length) (c := co39) ?_).2.2; exact (by (with_reducible repeat (first | apply Kd.R_alloc | apply Kd.R_drewN | apply Kd.R_drew)); exact (Kd.R_mono (Kd.R_far (p := ⟨gb322, 0, none⟩) (Kd.R_types HO321.out BK322.out (by decide)) (fun _ hk => hk.2) (.slice Ao39 t319.length co39)) (fun _ h_ => h_.1)))); (case side6 => exact (Kd.R_reads' HO321.out).2.1); rintro e w44 ⟨v324, rfl, ho0, hb⟩; refine ⟨_, rfl, ?_⟩; have n0_ := Aside0.mk (Kd.R_below (by (with_reducible repeat (first | apply Kd.R_alloc | apply Kd.R_drewN | apply Kd.R_drew)); exact (Kd.R_mono (Kd.R_far (p := ⟨gb322, 0, none⟩) (Kd.R_types HO302.out BK322.out (by decide)) (fun _ hk => hk.2) (.slice Ao39 t319.length co39)) (fun _ h_ => h_.1))) hb); have n1_ := Aside0.mk (Kd.R_elder' (by (with_reducible repeat (first | apply Kd.R_alloc | apply Kd.R_drewN | apply Kd.R_drew)); exact (Kd.R_mono (Kd.R_far (p := ⟨gb322, 0, none⟩) (Kd.R_types HO305.out BK322.out (by decide)) (fun _ hk => hk.2) (.slice Ao39 t319.length co39)) (fun _ h_ => h_.1))) (Kd.R_base ho0) hb); have n2_ := Aside0.mk (Kd.R_below (by (with_reducible repeat (first | apply Kd.R_alloc | apply Kd.R_drewN | apply Kd.R_drew)); exact (Kd.R_mono (Kd.R_far (p := ⟨gb322, 0, none⟩) (Kd.R_types HO308.out BK322.out (by decide)) (fun _ hk => hk.2) (.slice Ao39 t319.length co39)) (fun _ h_ => h_.1))) hb); have n3_ := Aside0.mk (Kd.R_elder' (by (with_reducible repeat (first | apply Kd.R_alloc | apply Kd.R_drewN | apply Kd.R_drew)); exact (Kd.R_mono (Kd.R_far (p := ⟨gb322, 0, none⟩) (Kd.R_types HO311.out BK322.out (by decide)) (fun _ hk => hk.2) (.slice Ao39 t319.length co39)) (fun _ h_ => h_.1))) (Kd.R_base ho0) hb); have n4_ := Aside0.mk (Kd.R_below (by (with_reducible repeat (first | apply Kd.R_alloc | apply Kd.R_drewN | apply Kd.R_drew)); exact (Kd.R_mono (Kd.R_far (p := ⟨gb322, 0, none⟩) (Kd.R_types HO315.out BK322.out (by decide)) (fun _ hk => hk.2) (.slice Ao39 t319.length co39)) (fun _ h_ => h_.1))) hb); have n5_ := Aside0.mk (Kd.R_elder' (by (with_reducible repeat (first | apply Kd.R_alloc | apply Kd.R_drewN | apply Kd.R_drew)); exact (Kd.R_mono (Kd.R_far (p := ⟨gb322, 0, none⟩) (Kd.R_types HO318.out BK322.out (by decide)) (fun _ hk => hk.2) (.slice Ao39 t319.length co39)) (fun _ h_ => h_.1))) (Kd.R_base ho0) hb); have n6_ := Aside0.mk (Kd.R_below (by (with_reducible repeat (first | apply Kd.R_alloc | apply Kd.R_drewN | apply Kd.R_drew)); exact (Kd.R_mono (Kd.R_far (p := ⟨gb322, 0, none⟩) (Kd.R_types HO321.out BK322.out (by decide)) (fun _ hk => hk.2) (.slice Ao39 t319.length co39)) (fun _ h_ => h_.1))) hb); have n7_ := Aside0.mk (Kd.R_lower (Kd.R_new' (Kd.R_new' (Kd.R_new' ho0 (Kd.R_lt (by (with_reducible repeat (first | apply Kd.R_alloc | apply Kd.R_drewN | apply Kd.R_drew)); exact (Kd.R_mono (Kd.R_far (p := ⟨gb322, 0, none⟩) (Kd.R_types HO305.out BK322.out (by decide)) (fun _ hk => hk.2) (.slice Ao39 t319.length co39)) (fun _ h_ => h_.1))))) (Kd.R_lt (by (with_reducible repeat (first | apply Kd.R_alloc | apply Kd.R_drewN | apply Kd.R_drew)); exact (Kd.R_mono (Kd.R_far (p := ⟨gb322, 0, none⟩) (Kd.R_types HO311.out BK322.out (by decide)) (fun _ hk => hk.2) (.slice Ao39 t319.length co39)) (fun _ h_ => h_.1))))) (Kd.R_lt (by (with_reducible repeat (first | apply Kd.R_alloc | apply Kd.R_drewN | apply Kd.R_drew)); exact (Kd.R_mono (Kd.R_far (p := ⟨gb322, 0, none⟩) (Kd.R_types HO318.out BK322.out (by decide)) (fun _ hk => hk.2) (.slice Ao39 t319.length co39)) (fun _ h_ => h_.1))))) (below_size (by repeat (first | (with_reducible first | exact HB.out | apply below_alloc | apply pw_below_drewN | apply below_drew1 | refine below_set ?_ GE297.out | refine below_set ?_ GE322.out) | exact HB.out)))); have n8_ := Aside0.mk (blk_below (g := gb297) (o := .cells #[.slice A2_0 l2_0.length c2_0] 26 (0, 0)) (by (with_reducible repeat (first | refine blk_drewN ?_ _ | refine blk_drew ?_ | refine blk_alloc ?_ _)); refine blk_far ?_ NB297_322.out _; (with_reducible repeat (first | refine blk_drewN ?_ _ | refine blk_drew ?_ | refine blk_alloc ?_ _)); exact BK297.out) hb); have n9_ := Aside0.mk (blk_below (g := gb322) (o := .cells #[.slice Ao39 t319.length co39] 35 (0, 0)) (by (with_reducible repeat (first | refine blk_drewN ?_ _ | refine blk_drew ?_ | refine blk_alloc ?_ _)); refine blk_put (cs := #[.slice none 0 0]) ?_ 0 _ rfl; (with_reducible repeat (first | refine blk_drewN ?_ _ | refine blk_drew ?_ | refine blk_alloc ?_ _)); exact BK322.out) hb); have n10_ := Aside0.mk (below_step (by repeat (first | (with_reducible first | exact HB.out | apply below_alloc | apply pw_below_drewN | apply below_drew1 | refine below_set ?_ GE297.out | refine below_set ?_ GE322.out) | exact HB.out)) hb); clear HO302; clear HO305; clear HO308; clear HO311; clear HO315; clear HO318; clear HO321; clear BK297; clear BK322; clear HB; have HO302 := n0_; have HO305 := n1_; have HO308 := n2_; have HO311 := n3_; have HO315 := n4_; have HO318 := n5_; have HO321 := n6_; have HO325 := n7_; have BK297 := n8_; have BK322 := n9_; have HB := n10_; clear n0_ n1_ n2_ n3_ n4_ n5_ n6_ n7_ n8_ n9_ n10_; (try clear hb); (try clear hb2); (try clear hk); (try clear hi); (try clear ho0)))
        (try simp only [Act.put, List.setIfInBounds_toArray, List.set_cons_zero, List.set_cons_succ])
        go_cut [64] (fun v64 wc => ∃ (kq : Nat) (x64_21 : Bool), v64 = .bool x64_21 ∧ Aside0 (laws_FnExactLiarsIn.j0 kq l0 l1 t309 t312 t313 t316 t323 t326 x64_21 l2_0 t319 = some r) ∧ Aside0 (kq ≤ k) ∧ Aside0 (Kd.R (Kd.int .i64) 3 wc w.heap.size (fun k_ => some k_ ≠ ((.slice Ao43 t316.length co43) : Value).ownBlock ∧ some k_ ≠ (v324 : Value).ownBlock) v310 t309) ∧ Aside0 (Kd.R k72 72 wc w.heap.size (fun _ => True) (.slice Ao42 t313.length co42) t313) ∧ Aside0 (Kd.R (Kd.int .i64) 3 wc w.heap.size (fun k_ => some k_ ≠ (v310 : Value).ownBlock ∧ some k_ ≠ (v324 : Value).ownBlock) (.slice Ao43 t316.length co43) t316) ∧ Aside0 (Kd.R (Kd.int .i64) 3 wc w.heap.size (fun k_ => some k_ ≠ (v310 : Value).ownBlock ∧ some k_ ≠ ((.slice Ao43 t316.length co43) : Value).ownBlock) v324 t323) ∧ Aside0 (Kd.R k67 67 wc w.heap.size (fun _ => True) (.slice Ao39 t319.length co39) t319) ∧ Aside0 (wc.heap[gb297]? = some (.cells #[(.slice A2_0 l2_0.length c2_0)] 26 (0, 0))) ∧ Aside0 (wc.heap[gb322]? = some (.cells #[(.slice Ao39 t319.length co39)] 35 (0, 0))) ∧ Aside0 (Below w.heap.size w wc))
        case first =>
          have H := HC22.out
          clear HC22
          replace H := Option.bind_eq_some_iff.mp H
          obtain ⟨t327, A450, H⟩ := H
          replace H : (if t327 = true then (laws_FnExactLiarsIn.j0 k l0 l1 t309 t312 t313 t316 t323 t326 (t326 != t312) l2_0 t319) else (laws_FnExactLiarsIn.j0 k l0 l1 t309 t312 t313 t316 t323 t326 true l2_0 t319)) = some r := H
          have A45 := Aside0.mk A450
          clear A450
          by_cases c46 : t327 = true
          · subst c46
            have H1 : (laws_FnExactLiarsIn.j0 k l0 l1 t309 t312 t313 t316 t323 t326 (t326 != t312) l2_0 t319) = some r := by rw [if_pos rfl] at H; exact H
            clear H
            have H := H1
            clear H1
            have H' := Aside0.mk H
            clear H
            obtain ⟨Ao47, co47, eo47⟩ := Kd.R_slice HO325.out
            subst eo47
            obtain ⟨Ao48, co48, eo48⟩ := Kd.R_slice HO311.out
            subst eo48
            go_wp2_with (first | ((with_reducible refine gate_callee (f := 18) rfl ?_); refine goesL_ (some 58) rfl rfl Try.func18 (by kernel_rfl) rfl #[.slice Ao47 t323.length co47, .slice Ao48 t309.length co48] rfl (by (try simp only [List.map_toArray, List.map_cons, List.map_nil]); first | done | rfl | (simp only [List.length_drop, List.length_take]; rfl)) ?_; (with_reducible refine (laws_eqIntS.calls k _ _ t323 _ _ t309 true _ ?side1 ?side2 ?side3 ?side4 A45.out).mono ?_); (case side1 => repeat (first | exact (Kd.R_reads' HO325.out).2.2 | (with_reducible refine Kd.C_alloc ?_ _) | (with_reducible refine Kd.C_drewN ?_ _) | (with_reducible refine Kd.C_drew ?_))); (case side2 => exact (Kd.R_reads' HO325.out).2.1); (case side3 => repeat (first | exact (Kd.R_reads' HO311.out).2.2 | (with_reducible refine Kd.C_alloc ?_ _) | (with_reducible refine Kd.C_drewN ?_ _) | (with_reducible refine Kd.C_drew ?_))); (case side4 => exact (Kd.R_reads' HO311.out).2.1); rintro e w' ⟨rfl, ⟨nd, rfl⟩⟩; refine ⟨_, rfl, ?_⟩))
            go_meet
            case rel => exact ⟨_, ((t326 != t312)), (by first | rfl | (simp; done) | (simp [*]; done)), H', ⟨by first | omega | exact Nat.le_refl _⟩, ⟨by (with_reducible repeat (first | apply Kd.R_alloc | apply Kd.R_drewN | apply Kd.R_drew)); exact Kd.R_mono HO311.out (fun _ hk => ⟨hk.1.2, hk.2⟩)⟩, ⟨by (with_reducible repeat (first | apply Kd.R_alloc | apply Kd.R_drewN | apply Kd.R_drew)); exact Kd.R_mono HO315.out (fun _ hk => trivial)⟩, ⟨by (with_reducible repeat (first | apply Kd.R_alloc | apply Kd.R_drewN | apply Kd.R_drew)); exact Kd.R_mono HO318.out (fun _ hk => ⟨hk.1.2, hk.2⟩)⟩, ⟨by (with_reducible repeat (first | apply Kd.R_alloc | apply Kd.R_drewN | apply Kd.R_drew)); exact Kd.R_mono HO325.out (fun _ hk => ⟨hk.1.2, hk.2⟩)⟩, ⟨by (with_reducible repeat (first | apply Kd.R_alloc | apply Kd.R_drewN | apply Kd.R_drew)); exact Kd.R_mono HO321.out (fun _ hk => trivial)⟩, ⟨by (with_reducible repeat (first | refine blk_drewN ?_ _ | refine blk_drew ?_ | refine blk_alloc ?_ _)); exact BK297.out⟩, ⟨by (with_reducible repeat (first | refine blk_drewN ?_ _ | refine blk_drew ?_ | refine blk_alloc ?_ _)); exact BK322.out⟩, ⟨by repeat (first | (with_reducible first | exact HB.out | apply below_alloc | apply pw_below_drewN | apply below_drew1 | refine below_set ?_ GE297.out | refine below_set ?_ GE322.out) | exact HB.out)⟩⟩
          · replace c46 := Bool.eq_false_iff.mpr c46
            subst c46
            have H1 : (laws_FnExactLiarsIn.j0 k l0 l1 t309 t312 t313 t316 t323 t326 true l2_0 t319) = some r := by rw [if_neg (show ¬ (false = true) by decide)] at H; exact H
            clear H
            have H := H1
            clear H1
            have H' := Aside0.mk H
            clear H
            obtain ⟨Ao49, co49, eo49⟩ := Kd.R_slice HO325.out
            subst eo49
            obtain ⟨Ao50, co50, eo50⟩ := Kd.R_slice HO311.out
            subst eo50
            go_wp2_with (first | ((with_reducible refine gate_callee (f := 18) rfl ?_); refine goesL_ (some 58) rfl rfl Try.func18 (by kernel_rfl) rfl #[.slice Ao49 t323.length co49, .slice Ao50 t309.length co50] rfl (by (try simp only [List.map_toArray, List.map_cons, List.map_nil]); first | done | rfl | (simp only [List.length_drop, List.length_take]; rfl)) ?_; (with_reducible refine (laws_eqIntS.calls k _ _ t323 _ _ t309 false _ ?side1 ?side2 ?side3 ?side4 A45.out).mono ?_); (case side1 => repeat (first | exact (Kd.R_reads' HO325.out).2.2 | (with_reducible refine Kd.C_alloc ?_ _) | (with_reducible refine Kd.C_drewN ?_ _) | (with_reducible refine Kd.C_drew ?_))); (case side2 => exact (Kd.R_reads' HO325.out).2.1); (case side3 => repeat (first | exact (Kd.R_reads' HO311.out).2.2 | (with_reducible refine Kd.C_alloc ?_ _) | (with_reducible refine Kd.C_drewN ?_ _) | (with_reducible refine Kd.C_drew ?_))); (case side4 => exact (Kd.R_reads' HO311.out).2.1); rintro e w' ⟨rfl, ⟨nd, rfl⟩⟩; refine ⟨_, rfl, ?_⟩))
            go_meet
            case rel => exact ⟨_, (true), (by first | rfl | (simp; done) | (simp [*]; done)), H', ⟨by first | omega | exact Nat.le_refl _⟩, ⟨by (with_reducible repeat (first | apply Kd.R_alloc | apply Kd.R_drewN | apply Kd.R_drew)); exact Kd.R_mono HO311.out (fun _ hk => ⟨hk.1.2, hk.2⟩)⟩, ⟨by (with_reducible repeat (first | apply Kd.R_alloc | apply Kd.R_drewN | apply Kd.R_drew)); exact Kd.R_mono HO315.out (fun _ hk => trivial)⟩, ⟨by (with_reducible repeat (first | apply Kd.R_alloc | apply Kd.R_drewN | apply Kd.R_drew)); exact Kd.R_mono HO318.out (fun _ hk => ⟨hk.1.2, hk.2⟩)⟩, ⟨by (with_reducible repeat (first | apply Kd.R_alloc | apply Kd.R_drewN | apply Kd.R_drew)); exact Kd.R_mono HO325.out (fun _ hk => ⟨hk.1.2, hk.2⟩)⟩, ⟨by (with_reducible repeat (first | apply Kd.R_alloc | apply Kd.R_drewN | apply Kd.R_drew)); exact Kd.R_mono HO321.out (fun _ hk => trivial)⟩, ⟨by (with_reducible repeat (first | refine blk_drewN ?_ _ | refine blk_drew ?_ | refine blk_alloc ?_ _)); exact BK297.out⟩, ⟨by (with_reducible repeat (first | refine blk_drewN ?_ _ | refine blk_drew ?_ | refine blk_alloc ?_ _)); exact BK322.out⟩, ⟨by repeat (first | (with_reducible first | exact HB.out | apply below_alloc | apply pw_below_drewN | apply below_drew1 | refine below_set ?_ GE297.out | refine below_set ?_ GE322.out) | exact HB.out)⟩⟩
        case rest =>
          clear HC22
          try clear c1
          try clear c2
          try clear p2
          try clear c4
          try clear c4b0
          try clear c4b1
          try clear c7
          try clear c7b0
          try clear c10
          try clear c10b0
          try clear c11
          try clear c13
          try clear c14
          try clear c15
          try clear c18
          try clear c20
          try clear c21
          try clear c40
          try clear c46
          try clear hcz12_0
          try clear hcz24_0
          try clear hcz36_0
          try clear hcz41_0
          try clear hfz12_0
          try clear hfz24_0
          try clear hfz36_0
          try clear hfz41_0
          obtain ⟨kq, x64_21, rfl, HA, HJ21, HO_8, HO_10, HO_11, HO_13, HO_323000, BK297, BK322, HB⟩ := hcut
          cases kq with
          | zero => exact absurd HA.out (by simp [laws_FnExactLiarsIn.j0])
          | succ kj21 =>
            have H := HA.out
            clear HA
            simp only [laws_FnExactLiarsIn.j0] at H
            by_cases c51 : x64_21 = true
            · subst c51
              have H1 : (some false) = some r := by rw [if_pos rfl] at H; exact H
              clear H
              have H := H1
              clear H1
              obtain rfl := Option.some.inj H
              go_wp2
              go_ret
              exact ⟨by first | rfl | (simp [errW_none, errW_some] <;> rfl) | (simp [*, errW_none, errW_some] <;> rfl), by repeat (first | (with_reducible first | exact HB.out | apply below_alloc | apply pw_below_drewN | apply below_drew1 | refine below_set ?_ GE297.out | refine below_set ?_ GE322.out) | exact HB.out)⟩
            · replace c51 := Bool.eq_false_iff.mpr c51
              subst c51
              have H1 : ((laws_toBlockS.f kj21 l0).bind fun t328 => ((laws_eqBlockS.f kj21 t313 t328).bind fun t331 => (if t331 = true then ((laws_toIntS.f kj21 l1).bind fun t332 => ((laws_eqIntS.f kj21 t316 t332).bind fun t335 => (if t335 = true then ((laws_toPool.f kj21 l2_0).bind fun t336 => ((laws_eqPool.f kj21 t319 t336).bind fun t339 => (if t339 = true then ((laws_markBlockS.f kj21 t313 1).bind fun bt340 => ((laws_markIntS.f kj21 t316 bt340.1).bind fun bt342 => ((laws_markPool.f kj21 t319 bt342.1).bind fun bt344 => (if bt344.1 < 0 then (laws_FnExactLiarsIn.j1 kj21 l0 l1 t309 t312 t323 true l2_0) else ((laws_eqIntS.f kj21 t323 t309).bind fun t346 => (if t346 = true then (laws_FnExactLiarsIn.j1 kj21 l0 l1 t309 t312 t323 (t326 != t312) l2_0) else (laws_FnExactLiarsIn.j1 kj21 l0 l1 t309 t312 t323 true l2_0))))))) else (some false)))) else (some false)))) else (some false)))) = some r := by rw [if_neg (show ¬ (false = true) by decide)] at H; exact H
              clear H
              have H := H1
              clear H1
              replace H := Option.bind_eq_some_iff.mp H
              obtain ⟨t328, A520, H⟩ := H
              replace H : ((laws_eqBlockS.f kj21 t313 t328).bind fun t331 => (if t331 = true then ((laws_toIntS.f kj21 l1).bind fun t332 => ((laws_eqIntS.f kj21 t316 t332).bind fun t335 => (if t335 = true then ((laws_toPool.f kj21 l2_0).bind fun t336 => ((laws_eqPool.f kj21 t319 t336).bind fun t339 => (if t339 = true then ((laws_markBlockS.f kj21 t313 1).bind fun bt340 => ((laws_markIntS.f kj21 t316 bt340.1).bind fun bt342 => ((laws_markPool.f kj21 t319 bt342.1).bind fun bt344 => (if bt344.1 < 0 then (laws_FnExactLiarsIn.j1 kj21 l0 l1 t309 t312 t323 true l2_0) else ((laws_eqIntS.f kj21 t323 t309).bind fun t346 => (if t346 = true then (laws_FnExactLiarsIn.j1 kj21 l0 l1 t309 t312 t323 (t326 != t312) l2_0) else (laws_FnExactLiarsIn.j1 kj21 l0 l1 t309 t312 t323 true l2_0))))))) else (some false)))) else (some false)))) else (some false))) = some r := H
              have A52 := Aside0.mk A520
              clear A520
              replace H := Option.bind_eq_some_iff.mp H
              obtain ⟨t331, A530, H⟩ := H
              replace H : (if t331 = true then ((laws_toIntS.f kj21 l1).bind fun t332 => ((laws_eqIntS.f kj21 t316 t332).bind fun t335 => (if t335 = true then ((laws_toPool.f kj21 l2_0).bind fun t336 => ((laws_eqPool.f kj21 t319 t336).bind fun t339 => (if t339 = true then ((laws_markBlockS.f kj21 t313 1).bind fun bt340 => ((laws_markIntS.f kj21 t316 bt340.1).bind fun bt342 => ((laws_markPool.f kj21 t319 bt342.1).bind fun bt344 => (if bt344.1 < 0 then (laws_FnExactLiarsIn.j1 kj21 l0 l1 t309 t312 t323 true l2_0) else ((laws_eqIntS.f kj21 t323 t309).bind fun t346 => (if t346 = true then (laws_FnExactLiarsIn.j1 kj21 l0 l1 t309 t312 t323 (t326 != t312) l2_0) else (laws_FnExactLiarsIn.j1 kj21 l0 l1 t309 t312 t323 true l2_0))))))) else (some false)))) else (some false)))) else (some false)) = some r := H
              have A53 := Aside0.mk A530
              clear A530
              by_cases c54 : t331 = true
              · subst c54
                have H1 : ((laws_toIntS.f kj21 l1).bind fun t332 => ((laws_eqIntS.f kj21 t316 t332).bind fun t335 => (if t335 = true then ((laws_toPool.f kj21 l2_0).bind fun t336 => ((laws_eqPool.f kj21 t319 t336).bind fun t339 => (if t339 = true then ((laws_markBlockS.f kj21 t313 1).bind fun bt340 => ((laws_markIntS.f kj21 t316 bt340.1).bind fun bt342 => ((laws_markPool.f kj21 t319 bt342.1).bind fun bt344 => (if bt344.1 < 0 then (laws_FnExactLiarsIn.j1 kj21 l0 l1 t309 t312 t323 true l2_0) else ((laws_eqIntS.f kj21 t323 t309).bind fun t346 => (if t346 = true then (laws_FnExactLiarsIn.j1 kj21 l0 l1 t309 t312 t323 (t326 != t312) l2_0) else (laws_FnExactLiarsIn.j1 kj21 l0 l1 t309 t312 t323 true l2_0))))))) else (some false)))) else (some false)))) = some r := by rw [if_pos rfl] at H; exact H
                clear H
                have H := H1
                clear H1
                replace H := Option.bind_eq_some_iff.mp H
                obtain ⟨t332, A550, H⟩ := H
                replace H : ((laws_eqIntS.f kj21 t316 t332).bind fun t335 => (if t335 = true then ((laws_toPool.f kj21 l2_0).bind fun t336 => ((laws_eqPool.f kj21 t319 t336).bind fun t339 => (if t339 = true then ((laws_markBlockS.f kj21 t313 1).bind fun bt340 => ((laws_markIntS.f kj21 t316 bt340.1).bind fun bt342 => ((laws_markPool.f kj21 t319 bt342.1).bind fun bt344 => (if bt344.1 < 0 then (laws_FnExactLiarsIn.j1 kj21 l0 l1 t309 t312 t323 true l2_0) else ((laws_eqIntS.f kj21 t323 t309).bind fun t346 => (if t346 = true then (laws_FnExactLiarsIn.j1 kj21 l0 l1 t309 t312 t323 (t326 != t312) l2_0) else (laws_FnExactLiarsIn.j1 kj21 l0 l1 t309 t312 t323 true l2_0))))))) else (some false)))) else (some false))) = some r := H
                have A55 := Aside0.mk A550
                clear A550
                replace H := Option.bind_eq_some_iff.mp H
                obtain ⟨t335, A560, H⟩ := H
                replace H : (if t335 = true then ((laws_toPool.f kj21 l2_0).bind fun t336 => ((laws_eqPool.f kj21 t319 t336).bind fun t339 => (if t339 = true then ((laws_markBlockS.f kj21 t313 1).bind fun bt340 => ((laws_markIntS.f kj21 t316 bt340.1).bind fun bt342 => ((laws_markPool.f kj21 t319 bt342.1).bind fun bt344 => (if bt344.1 < 0 then (laws_FnExactLiarsIn.j1 kj21 l0 l1 t309 t312 t323 true l2_0) else ((laws_eqIntS.f kj21 t323 t309).bind fun t346 => (if t346 = true then (laws_FnExactLiarsIn.j1 kj21 l0 l1 t309 t312 t323 (t326 != t312) l2_0) else (laws_FnExactLiarsIn.j1 kj21 l0 l1 t309 t312 t323 true l2_0))))))) else (some false)))) else (some false)) = some r := H
                have A56 := Aside0.mk A560
                clear A560
                by_cases c57 : t335 = true
                · subst c57
                  have H1 : ((laws_toPool.f kj21 l2_0).bind fun t336 => ((laws_eqPool.f kj21 t319 t336).bind fun t339 => (if t339 = true then ((laws_markBlockS.f kj21 t313 1).bind fun bt340 => ((laws_markIntS.f kj21 t316 bt340.1).bind fun bt342 => ((laws_markPool.f kj21 t319 bt342.1).bind fun bt344 => (if bt344.1 < 0 then (laws_FnExactLiarsIn.j1 kj21 l0 l1 t309 t312 t323 true l2_0) else ((laws_eqIntS.f kj21 t323 t309).bind fun t346 => (if t346 = true then (laws_FnExactLiarsIn.j1 kj21 l0 l1 t309 t312 t323 (t326 != t312) l2_0) else (laws_FnExactLiarsIn.j1 kj21 l0 l1 t309 t312 t323 true l2_0))))))) else (some false)))) = some r := by rw [if_pos rfl] at H; exact H
                  clear H
                  have H := H1
                  clear H1
                  replace H := Option.bind_eq_some_iff.mp H
                  obtain ⟨t336, A580, H⟩ := H
                  replace H : ((laws_eqPool.f kj21 t319 t336).bind fun t339 => (if t339 = true then ((laws_markBlockS.f kj21 t313 1).bind fun bt340 => ((laws_markIntS.f kj21 t316 bt340.1).bind fun bt342 => ((laws_markPool.f kj21 t319 bt342.1).bind fun bt344 => (if bt344.1 < 0 then (laws_FnExactLiarsIn.j1 kj21 l0 l1 t309 t312 t323 true l2_0) else ((laws_eqIntS.f kj21 t323 t309).bind fun t346 => (if t346 = true then (laws_FnExactLiarsIn.j1 kj21 l0 l1 t309 t312 t323 (t326 != t312) l2_0) else (laws_FnExactLiarsIn.j1 kj21 l0 l1 t309 t312 t323 true l2_0))))))) else (some false))) = some r := H
                  have A58 := Aside0.mk A580
                  clear A580
                  replace H := Option.bind_eq_some_iff.mp H
                  obtain ⟨t339, A590, H⟩ := H
                  replace H : (if t339 = true then ((laws_markBlockS.f kj21 t313 1).bind fun bt340 => ((laws_markIntS.f kj21 t316 bt340.1).bind fun bt342 => ((laws_markPool.f kj21 t319 bt342.1).bind fun bt344 => (if bt344.1 < 0 then (laws_FnExactLiarsIn.j1 kj21 l0 l1 t309 t312 t323 true l2_0) else ((laws_eqIntS.f kj21 t323 t309).bind fun t346 => (if t346 = true then (laws_FnExactLiarsIn.j1 kj21 l0 l1 t309 t312 t323 (t326 != t312) l2_0) else (laws_FnExactLiarsIn.j1 kj21 l0 l1 t309 t312 t323 true l2_0))))))) else (some false)) = some r := H
                  have A59 := Aside0.mk A590
                  clear A590
                  by_cases c60 : t339 = true
                  · subst c60
                    have H1 : ((laws_markBlockS.f kj21 t313 1).bind fun bt340 => ((laws_markIntS.f kj21 t316 bt340.1).bind fun bt342 => ((laws_markPool.f kj21 t319 bt342.1).bind fun bt344 => (if bt344.1 < 0 then (laws_FnExactLiarsIn.j1 kj21 l0 l1 t309 t312 t323 true l2_0) else ((laws_eqIntS.f kj21 t323 t309).bind fun t346 => (if t346 = true then (laws_FnExactLiarsIn.j1 kj21 l0 l1 t309 t312 t323 (t326 != t312) l2_0) else (laws_FnExactLiarsIn.j1 kj21 l0 l1 t309 t312 t323 true l2_0))))))) = some r := by rw [if_pos rfl] at H; exact H
                    clear H
                    have H := H1
                    clear H1
                    replace H := Option.bind_eq_some_iff.mp H
                    obtain ⟨⟨t340, t341⟩, A610, H⟩ := H
                    replace H : ((laws_markIntS.f kj21 t316 t340).bind fun bt342 => ((laws_markPool.f kj21 t319 bt342.1).bind fun bt344 => (if bt344.1 < 0 then (laws_FnExactLiarsIn.j1 kj21 l0 l1 t309 t312 t323 true l2_0) else ((laws_eqIntS.f kj21 t323 t309).bind fun t346 => (if t346 = true then (laws_FnExactLiarsIn.j1 kj21 l0 l1 t309 t312 t323 (t326 != t312) l2_0) else (laws_FnExactLiarsIn.j1 kj21 l0 l1 t309 t312 t323 true l2_0)))))) = some r := H
                    have A61 := Aside0.mk A610
                    clear A610
                    replace H := Option.bind_eq_some_iff.mp H
                    obtain ⟨⟨t342, t343⟩, A620, H⟩ := H
                    replace H : ((laws_markPool.f kj21 t319 t342).bind fun bt344 => (if bt344.1 < 0 then (laws_FnExactLiarsIn.j1 kj21 l0 l1 t309 t312 t323 true l2_0) else ((laws_eqIntS.f kj21 t323 t309).bind fun t346 => (if t346 = true then (laws_FnExactLiarsIn.j1 kj21 l0 l1 t309 t312 t323 (t326 != t312) l2_0) else (laws_FnExactLiarsIn.j1 kj21 l0 l1 t309 t312 t323 true l2_0))))) = some r := H
                    have A62 := Aside0.mk A620
                    clear A620
                    replace H := Option.bind_eq_some_iff.mp H
                    obtain ⟨⟨t344, t345⟩, A630, H⟩ := H
                    replace H : (if t344 < 0 then (laws_FnExactLiarsIn.j1 kj21 l0 l1 t309 t312 t323 true l2_0) else ((laws_eqIntS.f kj21 t323 t309).bind fun t346 => (if t346 = true then (laws_FnExactLiarsIn.j1 kj21 l0 l1 t309 t312 t323 (t326 != t312) l2_0) else (laws_FnExactLiarsIn.j1 kj21 l0 l1 t309 t312 t323 true l2_0)))) = some r := H
                    have A63 := Aside0.mk A630
                    clear A630
                    have HC64 := Aside0.mk H
                    clear H
                    try go_wp2_with (first | ((with_reducible refine gate_callee (f := 13) rfl ?_); refine goesL_ (some 67) rfl rfl Try.func13 (by kernel_rfl) rfl #[.slice A0 l0.length c0] rfl (by (try simp only [List.map_toArray, List.map_cons, List.map_nil]); first | done | rfl | (simp only [List.length_drop, List.length_take]; rfl)) ?_; (with_reducible refine (laws_toBlockS.calls kj21 _ _ l0 t328 _ ?side1 ?side2 A52.out).mono ?_); (case side1 => repeat (first | exact (Kd.C_below HR0.out HB.out) | (with_reducible refine Kd.C_alloc ?_ _) | (with_reducible refine Kd.C_drewN ?_ _) | (with_reducible refine Kd.C_drew ?_))); (case side2 => exact HC0.out); rintro e w65 ⟨v329, rfl, ho0, hb⟩; refine ⟨_, rfl, ?_⟩; have n0_ := Aside0.mk (Kd.R_below (by (with_reducible repeat (first | apply Kd.R_alloc | apply Kd.R_drewN | apply Kd.R_drew)); exact HO_8.out) hb); have n1_ := Aside0.mk (Kd.R_elder' (by (with_reducible repeat (first | apply Kd.R_alloc | apply Kd.R_drewN | apply Kd.R_drew)); exact HO_10.out) (Kd.R_base ho0) hb); have n2_ := Aside0.mk (Kd.R_below (by (with_reducible repeat (first | apply Kd.R_alloc | apply Kd.R_drewN | apply Kd.R_drew)); exact HO_11.out) hb); have n3_ := Aside0.mk (Kd.R_below (by (with_reducible repeat (first | apply Kd.R_alloc | apply Kd.R_drewN | apply Kd.R_drew)); exact HO_13.out) hb); have n4_ := Aside0.mk (Kd.R_below (by (with_reducible repeat (first | apply Kd.R_alloc | apply Kd.R_drewN | apply Kd.R_drew)); exact HO_323000.out) hb); have n5_ := Aside0.mk (Kd.R_lower (Kd.R_new' ho0 (Kd.R_lt (by (with_reducible repeat (first | apply Kd.R_alloc | apply Kd.R_drewN | apply Kd.R_drew)); exact HO_10.out))) (below_size (by repeat (first | (with_reducible first | exact HB.out | apply below_alloc | apply pw_below_drewN | apply below_drew1 | refine below_set ?_ GE297.out | refine below_set ?_ GE322.out) | exact HB.out)))); have n6_ := Aside0.mk (blk_below (g := gb297) (o := .cells #[.slice A2_0 l2_0.length c2_0] 26 (0, 0)) (by (with_reducible repeat (first | refine blk_drewN ?_ _ | refine blk_drew ?_ | refine blk_alloc ?_ _)); exact BK297.out) hb); have n7_ := Aside0.mk (blk_below (g := gb322) (o := .cells #[.slice Ao39 t319.length co39] 35 (0, 0)) (by (with_reducible repeat (first | refine blk_drewN ?_ _ | refine blk_drew ?_ | refine blk_alloc ?_ _)); exact BK322.out) hb); have n8_ := Aside0.mk (below_step (by repeat (first | (with_reducible first | exact HB.out | apply below_alloc | apply pw_below_drewN | apply below_drew1 | refine below_set ?_ GE297.out | refine below_set ?_ GE322.out) | exact HB.out)) hb); clear HO_8; clear HO_10; clear HO_11; clear HO_13; clear HO_323000; clear BK297; clear BK322; clear HB; have HO_8 := n0_; have HO_10 := n1_; have HO_11 := n2_; have HO_13 := n3_; have HO_323000 := n4_; have HO330 := n5_; have BK297 := n6_; have BK322 := n7_; have HB := n8_; clear n0_ n1_ n2_ n3_ n4_ n5_ n6_ n7_ n8_; (try clear hb); (try clear hb2); (try clear hk); (try clear hi); (try clear ho0); obtain ⟨Ao66, co66, eo66⟩ := Kd.R_slice HO330.out; subst eo66) | ((with_reducible refine gate_callee (f := 17) rfl ?_); refine goesL_ (some 68) rfl rfl Try.func17 (by kernel_rfl) rfl #[.slice Ao42 t313.length co42, .slice Ao66 t328.length co66] rfl (by (try simp only [List.map_toArray, List.map_cons, List.map_nil]); first | done | rfl | (simp only [List.length_drop, List.length_take]; rfl)) ?_; (with_reducible refine (laws_eqBlockS.calls kj21 _ _ t313 _ _ t328 true _ ?side1 ?side2 ?side3 ?side4 A53.out).mono ?_); (case side1 => repeat (first | exact (Kd.R_reads' HO_10.out).2.2 | (with_reducible refine Kd.C_alloc ?_ _) | (with_reducible refine Kd.C_drewN ?_ _) | (with_reducible refine Kd.C_drew ?_))); (case side2 => exact (Kd.R_reads' HO_10.out).2.1); (case side3 => repeat (first | exact (Kd.R_reads' HO330.out).2.2 | (with_reducible refine Kd.C_alloc ?_ _) | (with_reducible refine Kd.C_drewN ?_ _) | (with_reducible refine Kd.C_drew ?_))); (case side4 => exact (Kd.R_reads' HO330.out).2.1); rintro e w67 ⟨rfl, hb⟩; refine ⟨_, rfl, ?_⟩; have n0_ := Aside0.mk (Kd.R_below (by (with_reducible repeat (first | apply Kd.R_alloc | apply Kd.R_drewN | apply Kd.R_drew)); exact HO_8.out) hb); have n1_ := Aside0.mk (Kd.R_below (by (with_reducible repeat (first | apply Kd.R_alloc | apply Kd.R_drewN | apply Kd.R_drew)); exact HO_10.out) hb); have n2_ := Aside0.mk (Kd.R_below (by (with_reducible repeat (first | apply Kd.R_alloc | apply Kd.R_drewN | apply Kd.R_drew)); exact HO_11.out) hb); have n3_ := Aside0.mk (Kd.R_below (by (with_reducible repeat (first | apply Kd.R_alloc | apply Kd.R_drewN | apply Kd.R_drew)); exact HO_13.out) hb); have n4_ := Aside0.mk (Kd.R_below (by (with_reducible repeat (first | apply Kd.R_alloc | apply Kd.R_drewN | apply Kd.R_drew)); exact HO_323000.out) hb); have n5_ := Aside0.mk (Kd.R_below (by (with_reducible repeat (first | apply Kd.R_alloc | apply Kd.R_drewN | apply Kd.R_drew)); exact HO330.out) hb); have n6_ := Aside0.mk (blk_below (g := gb297) (o := .cells #[.slice A2_0 l2_0.length c2_0] 26 (0, 0)) (by (with_reducible repeat (first | refine blk_drewN ?_ _ | refine blk_drew ?_ | refine blk_alloc ?_ _)); exact BK297.out) hb); have n7_ := Aside0.mk (blk_below (g := gb322) (o := .cells #[.slice Ao39 t319.length co39] 35 (0, 0)) (by (with_reducible repeat (first | refine blk_drewN ?_ _ | refine blk_drew ?_ | refine blk_alloc ?_ _)); exact BK322.out) hb); have n8_ := Aside0.mk (below_step (by repeat (first | (with_reducible first | exact HB.out | apply below_alloc | apply pw_below_drewN | apply below_drew1 | refine below_set ?_ GE297.out | refine below_set ?_ GE322.out) | exact HB.out)) hb); clear HO_8; clear HO_10; clear HO_11; clear HO_13; clear HO_323000; clear HO330; clear BK297; clear BK322; clear HB; have HO_8 := n0_; have HO_10 := n1_; have HO_11 := n2_; have HO_13 := n3_; have HO_323000 := n4_; have HO330 := n5_; have BK297 := n6_; have BK322 := n7_; have HB := n8_; clear n0_ n1_ n2_ n3_ n4_ n5_ n6_ n7_ n8_; (try clear hb); (try clear hb2); (try clear hk); (try clear hi)) | ((with_reducible refine gate_callee (f := 14) rfl ?_); refine goesL_ (some 72) rfl rfl Try.func14 (by kernel_rfl) rfl #[.slice A1 l1.length c1] rfl (by (try simp only [List.map_toArray, List.map_cons, List.map_nil]); first | done | rfl | (simp only [List.length_drop, List.length_take]; rfl)) ?_; (with_reducible refine (laws_toIntS.calls kj21 _ _ l1 t332 _ ?side1 ?side2 A55.out).mono ?_); (case side1 => repeat (first | exact (Kd.C_below HR1.out HB.out) | (with_reducible refine Kd.C_alloc ?_ _) | (with_reducible refine Kd.C_drewN ?_ _) | (with_reducible refine Kd.C_drew ?_))); (case side2 => exact HC1.out); rintro e w68 ⟨v333, rfl, ho0, hb⟩; refine ⟨_, rfl, ?_⟩; have n0_ := Aside0.mk (Kd.R_elder' (by (with_reducible repeat (first | apply Kd.R_alloc | apply Kd.R_drewN | apply Kd.R_drew)); exact HO_8.out) (Kd.R_base ho0) hb); have n1_ := Aside0.mk (Kd.R_below (by (with_reducible repeat (first | apply Kd.R_alloc | apply Kd.R_drewN | apply Kd.R_drew)); exact HO_10.out) hb); have n2_ := Aside0.mk (Kd.R_elder' (by (with_reducible repeat (first | apply Kd.R_alloc | apply Kd.R_drewN | apply Kd.R_drew)); exact HO_11.out) (Kd.R_base ho0) hb); have n3_ := Aside0.mk (Kd.R_elder' (by (with_reducible repeat (first | apply Kd.R_alloc | apply Kd.R_drewN | apply Kd.R_drew)); exact HO_13.out) (Kd.R_base ho0) hb); have n4_ := Aside0.mk (Kd.R_below (by (with_reducible repeat (first | apply Kd.R_alloc | apply Kd.R_drewN | apply Kd.R_drew)); exact HO_323000.out) hb); have n5_ := Aside0.mk (Kd.R_below (by (with_reducible repeat (first | apply Kd.R_alloc | apply Kd.R_drewN | apply Kd.R_drew)); exact HO330.out) hb); have n6_ := Aside0.mk (Kd.R_lower (Kd.R_new' (Kd.R_new' (Kd.R_new' ho0 (Kd.R_lt (by (with_reducible repeat (first | apply Kd.R_alloc | apply Kd.R_drewN | apply Kd.R_drew)); exact HO_8.out))) (Kd.R_lt (by (with_reducible repeat (first | apply Kd.R_alloc | apply Kd.R_drewN | apply Kd.R_drew)); exact HO_11.out))) (Kd.R_lt (by (with_reducible repeat (first | apply Kd.R_alloc | apply Kd.R_drewN | apply Kd.R_drew)); exact HO_13.out))) (below_size (by repeat (first | (with_reducible first | exact HB.out | apply below_alloc | apply pw_below_drewN | apply below_drew1 | refine below_set ?_ GE297.out | refine below_set ?_ GE322.out) | exact HB.out)))); have n7_ := Aside0.mk (blk_below (g := gb297) (o := .cells #[.slice A2_0 l2_0.length c2_0] 26 (0, 0)) (by (with_reducible repeat (first | refine blk_drewN ?_ _ | refine blk_drew ?_ | refine blk_alloc ?_ _)); exact BK297.out) hb); have n8_ := Aside0.mk (blk_below (g := gb322) (o := .cells #[.slice Ao39 t319.length co39] 35 (0, 0)) (by (with_reducible repeat (first | refine blk_drewN ?_ _ | refine blk_drew ?_ | refine blk_alloc ?_ _)); exact BK322.out) hb); have n9_ := Aside0.mk (below_step (by repeat (first | (with_reducible first | exact HB.out | apply below_alloc | apply pw_below_drewN | apply below_drew1 | refine below_set ?_ GE297.out | refine below_set ?_ GE322.out) | exact HB.out)) hb); clear HO_8; clear HO_10; clear HO_11; clear HO_13; clear HO_323000; clear HO330; clear BK297; clear BK322; clear HB; have HO_8 := n0_; have HO_10 := n1_; have HO_11 := n2_; have HO_13 := n3_; have HO_323000 := n4_; have HO330 := n5_; have HO334 := n6_; have BK297 := n7_; have BK322 := n8_; have HB := n9_; clear n0_ n1_ n2_ n3_ n4_ n5_ n6_ n7_ n8_ n9_; (try clear hb); (try clear hb2); (try clear hk); (try clear hi); (try clear ho0); obtain ⟨Ao69, co69, eo69⟩ := Kd.R_slice HO334.out; subst eo69) | ((with_reducible refine gate_callee (f := 18) rfl ?_); refine goesL_ (some 73) rfl rfl Try.func18 (by kernel_rfl) rfl #[.slice Ao43 t316.length co43, .slice Ao69 t332.length co69] rfl (by (try simp only [List.map_toArray, List.map_cons, List.map_nil]); first | done | rfl | (simp only [List.length_drop, List.length_take]; rfl)) ?_; (with_reducible refine (laws_eqIntS.calls kj21 _ _ t316 _ _ t332 true _ ?side1 ?side2 ?side3 ?side4 A56.out).mono ?_); (case side1 => repeat (first | exact (Kd.R_reads' HO_11.out).2.2 | (with_reducible refine Kd.C_alloc ?_ _) | (with_reducible refine Kd.C_drewN ?_ _) | (with_reducible refine Kd.C_drew ?_))); (case side2 => exact (Kd.R_reads' HO_11.out).2.1); (case side3 => repeat (first | exact (Kd.R_reads' HO334.out).2.2 | (with_reducible refine Kd.C_alloc ?_ _) | (with_reducible refine Kd.C_drewN ?_ _) | (with_reducible refine Kd.C_drew ?_))); (case side4 => exact (Kd.R_reads' HO334.out).2.1); rintro e w' ⟨rfl, ⟨nd, rfl⟩⟩; refine ⟨_, rfl, ?_⟩))
                    (try (rw [drewN_self w68]; generalize hq_ : World.drewN w68 _ = w68; have n0_ : Aside0 (Kd.R k72 72 w68 w.heap.size (fun k_ => some k_ ≠ (.slice Ao42 t313.length co42 : Value).ownBlock) (.slice Ao66 t328.length co66) t328) := ⟨by rw [← hq_]; exact (by (with_reducible repeat (first | apply Kd.R_alloc | apply Kd.R_drewN | apply Kd.R_drew)); exact Kd.R_mono HO330.out (fun _ hk => hk.2))⟩; have n1_ : Aside0 (Kd.R (Kd.int .i64) 3 w68 w.heap.size (fun k_ => some k_ ≠ (.slice Ao43 t316.length co43 : Value).ownBlock ∧ some k_ ≠ (v324 : Value).ownBlock ∧ some k_ ≠ (v310 : Value).ownBlock) (.slice Ao69 t332.length co69) t332) := ⟨by rw [← hq_]; exact (by (with_reducible repeat (first | apply Kd.R_alloc | apply Kd.R_drewN | apply Kd.R_drew)); exact Kd.R_mono HO334.out (fun _ hk => ⟨hk.1.2, ⟨hk.2, hk.1.1.2⟩⟩))⟩; have n2_ : Aside0 (Kd.R k72 72 w68 w.heap.size (fun k_ => some k_ ≠ (.slice Ao66 t328.length co66 : Value).ownBlock) (.slice Ao42 t313.length co42) t313) := ⟨by rw [← hq_]; exact (by (with_reducible repeat (first | apply Kd.R_alloc | apply Kd.R_drewN | apply Kd.R_drew)); exact Kd.R_mono HO_10.out (fun _ hk => hk.2))⟩; have n3_ : Aside0 (Kd.R (Kd.int .i64) 3 w68 w.heap.size (fun k_ => some k_ ≠ (.slice Ao69 t332.length co69 : Value).ownBlock ∧ some k_ ≠ (v324 : Value).ownBlock ∧ some k_ ≠ (v310 : Value).ownBlock) (.slice Ao43 t316.length co43) t316) := ⟨by rw [← hq_]; exact (by (with_reducible repeat (first | apply Kd.R_alloc | apply Kd.R_drewN | apply Kd.R_drew)); exact Kd.R_mono HO_11.out (fun _ hk => ⟨hk.2, ⟨hk.1.2, hk.1.1⟩⟩))⟩; have n4_ : Aside0 (Kd.R (Kd.int .i64) 3 w68 w.heap.size (fun k_ => some k_ ≠ (.slice Ao69 t332.length co69 : Value).ownBlock ∧ some k_ ≠ (.slice Ao43 t316.length co43 : Value).ownBlock ∧ some k_ ≠ (v310 : Value).ownBlock) v324 t323) := ⟨by rw [← hq_]; exact (by (with_reducible repeat (first | apply Kd.R_alloc | apply Kd.R_drewN | apply Kd.R_drew)); exact Kd.R_mono HO_13.out (fun _ hk => ⟨hk.2, ⟨hk.1.2, hk.1.1⟩⟩))⟩; have n5_ : Aside0 (Kd.R k67 67 w68 w.heap.size (fun _ => True) (.slice Ao39 t319.length co39) t319) := ⟨by rw [← hq_]; exact (by (with_reducible repeat (first | apply Kd.R_alloc | apply Kd.R_drewN | apply Kd.R_drew)); exact HO_323000.out)⟩; have n6_ : Aside0 (Kd.R (Kd.int .i64) 3 w68 w.heap.size (fun k_ => some k_ ≠ (.slice Ao69 t332.length co69 : Value).ownBlock ∧ some k_ ≠ (.slice Ao43 t316.length co43 : Value).ownBlock ∧ some k_ ≠ (v324 : Value).ownBlock) v310 t309) := ⟨by rw [← hq_]; exact (by (with_reducible repeat (first | apply Kd.R_alloc | apply Kd.R_drewN | apply Kd.R_drew)); exact Kd.R_mono HO_8.out (fun _ hk => ⟨hk.2, ⟨hk.1.1, hk.1.2⟩⟩))⟩; have n7_ : Aside0 (w68.heap[gb297]? = some (.cells #[.slice A2_0 l2_0.length c2_0] 26 (0, 0))) := ⟨by rw [← hq_]; exact (by (with_reducible repeat (first | refine blk_drewN ?_ _ | refine blk_drew ?_ | refine blk_alloc ?_ _)); exact BK297.out)⟩; have n8_ : Aside0 (w68.heap[gb322]? = some (.cells #[.slice Ao39 t319.length co39] 35 (0, 0))) := ⟨by rw [← hq_]; exact (by (with_reducible repeat (first | refine blk_drewN ?_ _ | refine blk_drew ?_ | refine blk_alloc ?_ _)); exact BK322.out)⟩; have n9_ : Aside0 (Below w.heap.size w w68) := ⟨by rw [← hq_]; exact (by repeat (first | (with_reducible first | exact HB.out | apply below_alloc | apply pw_below_drewN | apply below_drew1 | refine below_set ?_ GE297.out | refine below_set ?_ GE322.out) | exact HB.out))⟩; clear HO330 HO334 HO_10 HO_11 HO_13 HO_323000 HO_8 BK297 BK322 HB hq_; have HO330 := n0_; have HO334 := n1_; have HO_10 := n2_; have HO_11 := n3_; have HO_13 := n4_; have HO_323000 := n5_; have HO_8 := n6_; have BK297 := n7_; have BK322 := n8_; have HB := n9_; clear n0_ n1_ n2_ n3_ n4_ n5_ n6_ n7_ n8_ n9_))
                    have n0_ := Aside0.mk (Kd.R_drew HO_8.out)
                    have n1_ := Aside0.mk (Kd.R_drew HO_10.out)
                    have n2_ := Aside0.mk (Kd.R_drew HO_11.out)
                    have n3_ := Aside0.mk (Kd.R_drew HO_13.out)
                    have n4_ := Aside0.mk (Kd.R_drew HO_323000.out)
                    have n5_ := Aside0.mk (Kd.R_drew HO330.out)
                    have n6_ := Aside0.mk (Kd.R_drew HO334.out)
                    have n7_ := Aside0.mk (blk_drew BK297.out)
                    have n8_ := Aside0.mk (blk_drew BK322.out)
                    have n9_ := Aside0.mk (below_drew1 HB.out)
                    clear HO_8
                    clear HO_10
                    clear HO_11
                    clear HO_13
                    clear HO_323000
                    clear HO330
                    clear HO334
                    clear BK297
                    clear BK322
                    clear HB
                    have HO_8 := n0_
                    have HO_10 := n1_
                    have HO_11 := n2_
                    have HO_13 := n3_
                    have HO_323000 := n4_
                    have HO330 := n5_
                    have HO334 := n6_
                    have BK297 := n7_
                    have BK322 := n8_
                    have HB := n9_
                    clear n0_ n1_ n2_ n3_ n4_ n5_ n6_ n7_ n8_ n9_
                    refine start_ (n := 5) (S := fun w' => w'.cell? ⟨gb322, 0, none⟩ = some (.slice Ao39 t319.length co39) ∧ w'.cell? ⟨gb297, 0, none⟩ = some (.slice A2_0 l2_0.length c2_0)) (ds := []) #[false, false, false, false, false] (by kernel_rfl) rfl rfl ⟨(blk_cell BK322.out 0).trans rfl, (blk_cell BK297.out 0).trans rfl⟩ (fun hHeld => ?_)
                    generalize w68.drew = w70 at HO_8 HO_10 HO_11 HO_13 HO_323000 HO330 HO334 BK297 BK322 HB hHeld ⊢
                    refine take_ (i := 0) (N := some 75) (v := ?_) (a' := ?_) #[true, false, false, false, false] rfl rfl (by kernel_rfl) (fun _ _ _ h => h) (Or.inl ⟨by rfl, ?_⟩) hHeld ?_ ?_
                    rotate_left
                    · rintro w' ⟨s0, s1⟩
                      go_simp
                      with_reducible rfl
                    rotate_left
                    · simp only [Act.put, List.setIfInBounds_toArray, List.set_cons_zero, List.set_cons_succ, i64_w, i32_w]
                      rfl
                    refine take_ (i := 1) (N := some 76) (v := ?_) (a' := ?_) #[true, true, false, false, false] rfl rfl (by kernel_rfl) (fun _ _ _ h => h) (Or.inl ⟨by rfl, ?_⟩) hHeld ?_ ?_
                    rotate_left
                    · rintro w' ⟨s0, s1⟩
                      go_simp
                      with_reducible rfl
                    rotate_left
                    · simp only [Act.put, List.setIfInBounds_toArray, List.set_cons_zero, List.set_cons_succ, i64_w, i32_w]
                      rfl
                    refine one_ (i := 2) (N := some 77) #[true, true, true, false, false] rfl rfl (by kernel_rfl) (by decide) (fun K hK => ?_)
                    refine goes_ Try.func15 (by kernel_rfl) rfl #[.agg #[.slice A2_0 l2_0.length c2_0]] (by rfl) rfl rfl (by (try simp only [List.map_toArray, List.map_cons, List.map_nil]); first | done | rfl | (simp only [List.length_drop, List.length_take]; rfl)) ?_
                    with_reducible refine (laws_toPool.calls kj21 _ _ l2_0 t336 _ ?side1 ?side2 A58.out).mono ?_
                    (case side1 => repeat (first | exact (Kd.C_below HR2_0.out HB.out) | (with_reducible refine Kd.C_alloc ?_ _) | (with_reducible refine Kd.C_drewN ?_ _) | (with_reducible refine Kd.C_drew ?_)))
                    (case side2 => exact HC2_0.out)
                    rintro e w71 ⟨v337, rfl, ho0, hb⟩
                    refine ⟨_, rfl, ?_⟩
                    have n0_ := Aside0.mk (Kd.R_below (by (with_reducible repeat (first | apply Kd.R_alloc | apply Kd.R_drewN | apply Kd.R_drew)); exact HO_8.out) hb)
                    have n1_ := Aside0.mk (Kd.R_below (by (with_reducible repeat (first | apply Kd.R_alloc | apply Kd.R_drewN | apply Kd.R_drew)); exact HO_10.out) hb)
                    have n2_ := Aside0.mk (Kd.R_below (by (with_reducible repeat (first | apply Kd.R_alloc | apply Kd.R_drewN | apply Kd.R_drew)); exact HO_11.out) hb)
                    have n3_ := Aside0.mk (Kd.R_below (by (with_reducible repeat (first | apply Kd.R_alloc | apply Kd.R_drewN | apply Kd.R_drew)); exact HO_13.out) hb)
                    have n4_ := Aside0.mk (Kd.R_elder' (by (with_reducible repeat (first | apply Kd.R_alloc | apply Kd.R_drewN | apply Kd.R_drew)); exact HO_323000.out) (Kd.R_base ho0) hb)
                    have n5_ := Aside0.mk (Kd.R_below (by (with_reducible repeat (first | apply Kd.R_alloc | apply Kd.R_drewN | apply Kd.R_drew)); exact HO330.out) hb)
                    have n6_ := Aside0.mk (Kd.R_below (by (with_reducible repeat (first | apply Kd.R_alloc | apply Kd.R_drewN | apply Kd.R_drew)); exact HO334.out) hb)
                    have n7_ := Aside0.mk (Kd.R_lower (Kd.R_new' ho0 (Kd.R_lt (by (with_reducible repeat (first | apply Kd.R_alloc | apply Kd.R_drewN | apply Kd.R_drew)); exact HO_323000.out))) (below_size (by repeat (first | (with_reducible first | exact HB.out | apply below_alloc | apply pw_below_drewN | apply below_drew1 | refine below_set ?_ GE297.out | refine below_set ?_ GE322.out) | exact HB.out))))
                    have n8_ := Aside0.mk (blk_below (g := gb297) (o := .cells #[.slice A2_0 l2_0.length c2_0] 26 (0, 0)) (by (with_reducible repeat (first | refine blk_drewN ?_ _ | refine blk_drew ?_ | refine blk_alloc ?_ _)); exact BK297.out) hb)
                    have n9_ := Aside0.mk (blk_below (g := gb322) (o := .cells #[.slice Ao39 t319.length co39] 35 (0, 0)) (by (with_reducible repeat (first | refine blk_drewN ?_ _ | refine blk_drew ?_ | refine blk_alloc ?_ _)); exact BK322.out) hb)
                    have n10_ := Aside0.mk (below_step (by repeat (first | (with_reducible first | exact HB.out | apply below_alloc | apply pw_below_drewN | apply below_drew1 | refine below_set ?_ GE297.out | refine below_set ?_ GE322.out) | exact HB.out)) hb)
                    clear HO_8
                    clear HO_10
                    clear HO_11
                    clear HO_13
                    clear HO_323000
                    clear HO330
                    clear HO334
                    clear BK297
                    clear BK322
                    clear HB
                    have HO_8 := n0_
                    have HO_10 := n1_
                    have HO_11 := n2_
                    have HO_13 := n3_
                    have HO_323000 := n4_
                    have HO330 := n5_
                    have HO334 := n6_
                    have HO338 := n7_
                    have BK297 := n8_
                    have BK322 := n9_
                    have HB := n10_
                    clear n0_ n1_ n2_ n3_ n4_ n5_ n6_ n7_ n8_ n9_ n10_
                    (try clear hb)
                    (try clear hb2)
                    (try clear hk)
                    (try clear hi)
                    (try clear ho0)
                    obtain ⟨Ao72, co72, eo72⟩ := Kd.R_slice HO338.out
                    (first | subst eo72 | (injection eo72 with f1_ f2_ f3_; have f4_ := f1_.symm; have f5_ := f3_.symm; clear f1_ f2_ f3_; subst f4_; subst f5_))
                    refine hK.out _ _ ⟨(blk_cell BK322.out 0).trans rfl, (blk_cell BK297.out 0).trans rfl⟩ (fun hHeld => ?_)
                    clear hK K
                    refine norm_ (a' := ?_) ?_ ?_
                    rotate_left
                    · show Act.put _ (some 77) _ = _
                      simp only [Act.put, List.setIfInBounds_toArray, List.set_cons_zero, List.set_cons_succ, i64_w, i32_w]
                      rfl
                    refine one_ (i := 3) (N := some 78) #[true, true, true, true, false] rfl rfl (by kernel_rfl) (by decide) (fun K hK => ?_)
                    refine goes_ Try.func19 (by kernel_rfl) rfl #[.agg #[.slice Ao39 t319.length co39], .agg #[.slice Ao72 t336.length co72]] (by rfl) rfl rfl (by (try simp only [List.map_toArray, List.map_cons, List.map_nil]); first | done | rfl | (simp only [List.length_drop, List.length_take]; rfl)) ?_
                    with_reducible refine (laws_eqPool.calls kj21 _ _ t319 _ _ t336 true _ ?side1 ?side2 ?side3 ?side4 A59.out).mono ?_
                    (case side1 => repeat (first | exact (Kd.R_reads' HO_323000.out).2.2 | (with_reducible refine Kd.C_alloc ?_ _) | (with_reducible refine Kd.C_drewN ?_ _) | (with_reducible refine Kd.C_drew ?_)))
                    (case side2 => exact (Kd.R_reads' HO_323000.out).2.1)
                    (case side3 => repeat (first | exact (Kd.R_reads' HO338.out).2.2 | (with_reducible refine Kd.C_alloc ?_ _) | (with_reducible refine Kd.C_drewN ?_ _) | (with_reducible refine Kd.C_drew ?_)))
                    (case side4 => exact (Kd.R_reads' HO338.out).2.1)
                    rintro e w73 ⟨rfl, hb⟩
                    refine ⟨_, rfl, ?_⟩
                    have n0_ := Aside0.mk (Kd.R_below (by (with_reducible repeat (first | apply Kd.R_alloc | apply Kd.R_drewN | apply Kd.R_drew)); exact HO_8.out) hb)
                    have n1_ := Aside0.mk (Kd.R_below (by (with_reducible repeat (first | apply Kd.R_alloc | apply Kd.R_drewN | apply Kd.R_drew)); exact HO_10.out) hb)
                    have n2_ := Aside0.mk (Kd.R_below (by (with_reducible repeat (first | apply Kd.R_alloc | apply Kd.R_drewN | apply Kd.R_drew)); exact HO_11.out) hb)
                    have n3_ := Aside0.mk (Kd.R_below (by (with_reducible repeat (first | apply Kd.R_alloc | apply Kd.R_drewN | apply Kd.R_drew)); exact HO_13.out) hb)
                    have n4_ := Aside0.mk (Kd.R_below (by (with_reducible repeat (first | apply Kd.R_alloc | apply Kd.R_drewN | apply Kd.R_drew)); exact HO_323000.out) hb)
                    have n5_ := Aside0.mk (Kd.R_below (by (with_reducible repeat (first | apply Kd.R_alloc | apply Kd.R_drewN | apply Kd.R_drew)); exact HO330.out) hb)
                    have n6_ := Aside0.mk (Kd.R_below (by (with_reducible repeat (first | apply Kd.R_alloc | apply Kd.R_drewN | apply Kd.R_drew)); exact HO334.out) hb)
                    have n7_ := Aside0.mk (Kd.R_below (by (with_reducible repeat (first | apply Kd.R_alloc | apply Kd.R_drewN | apply Kd.R_drew)); exact HO338.out) hb)
                    have n8_ := Aside0.mk (blk_below (g := gb297) (o := .cells #[.slice A2_0 l2_0.length c2_0] 26 (0, 0)) (by (with_reducible repeat (first | refine blk_drewN ?_ _ | refine blk_drew ?_ | refine blk_alloc ?_ _)); exact BK297.out) hb)
                    have n9_ := Aside0.mk (blk_below (g := gb322) (o := .cells #[.slice Ao39 t319.length co39] 35 (0, 0)) (by (with_reducible repeat (first | refine blk_drewN ?_ _ | refine blk_drew ?_ | refine blk_alloc ?_ _)); exact BK322.out) hb)
                    have n10_ := Aside0.mk (below_step (by repeat (first | (with_reducible first | exact HB.out | apply below_alloc | apply pw_below_drewN | apply below_drew1 | refine below_set ?_ GE297.out | refine below_set ?_ GE322.out) | exact HB.out)) hb)
                    clear HO_8
                    clear HO_10
                    clear HO_11
                    clear HO_13
                    clear HO_323000
                    clear HO330
                    clear HO334
                    clear HO338
                    clear BK297
                    clear BK322
                    clear HB
                    have HO_8 := n0_
                    have HO_10 := n1_
                    have HO_11 := n2_
                    have HO_13 := n3_
                    have HO_323000 := n4_
                    have HO330 := n5_
                    have HO334 := n6_
                    have HO338 := n7_
                    have BK297 := n8_
                    have BK322 := n9_
                    have HB := n10_
                    clear n0_ n1_ n2_ n3_ n4_ n5_ n6_ n7_ n8_ n9_ n10_
                    (try clear hb)
                    (try clear hb2)
                    (try clear hk)
                    (try clear hi)
                    refine hK.out _ _ ⟨(blk_cell BK322.out 0).trans rfl, (blk_cell BK297.out 0).trans rfl⟩ (fun hHeld => ?_)
                    clear hK K
                    refine norm_ (a' := ?_) ?_ ?_
                    rotate_left
                    · show Act.put _ (some 78) _ = _
                      simp only [Act.put, List.setIfInBounds_toArray, List.set_cons_zero, List.set_cons_succ, i64_w, i32_w]
                      rfl
                    refine pure_ (i := 4) (N := some 79) (v := ?_) (a' := ?_) #[true, true, true, true, true] rfl rfl (by kernel_rfl) (fun _ _ _ h => h) (Or.inl ⟨by rfl, ?_⟩) ?_ ?_
                    rotate_left
                    · intro w'
                      go_simp
                      with_reducible rfl
                    rotate_left
                    · simp only [Act.put, List.setIfInBounds_toArray, List.set_cons_zero, List.set_cons_succ, i64_w, i32_w]
                      rfl
                    refine done_ (by kernel_rfl) ?_
                    go_upto_region 27 with (first | ((with_reducible refine gate_callee (f := 22) rfl ?_); refine goesL_ (some 82) rfl rfl Try.func22 (by kernel_rfl) rfl #[.slice Ao42 t313.length co42, .int .i64 1] rfl (by (try simp only [List.map_toArray, List.map_cons, List.map_nil]); first | done | rfl | (simp only [List.length_drop, List.length_take]; rfl)) ?_; (with_reducible refine (laws_markBlockS.calls kj21 (fun k_ => some k_ = (.slice Ao42 t313.length co42 : Value).ownBlock) (.slice Ao42 t313.length co42) t313 1 t340 t341 w _ ?side1 ?side2 A61.out).mono ?_); (case side1 => repeat (first | (with_reducible first | exact HB.out | apply below_alloc | apply pw_below_drewN | apply below_drew1 | refine below_set ?_ GE297.out | refine below_set ?_ GE322.out) | exact HB.out)); (case side2 => exact Kd.R_tight rfl HO_10.out); rintro e w74 ⟨rfl, hy0, hb, hkp⟩; refine ⟨_, rfl, ?_⟩; have n0_ := Aside0.mk (Kd.R_mono (ok' := fun k_ => some k_ ≠ (.slice Ao43 t316.length co43 : Value).ownBlock ∧ some k_ ≠ (v324 : Value).ownBlock ∧ some k_ ≠ (.slice Ao69 t332.length co69 : Value).ownBlock) (Kd.R_keptB ((Kd.R_apart' HO_8.out (Kd.R_typed HO_10.out) (by decide))) hkp (by first | exact (fun k_ hk_ hs_ => (hk_.2) hs_) | (intro k_ hk_ hs_; have h2_ : some k_ = _ := hs_; revert hk_; simp [h2_]))) (by first | exact (fun k_ hk_ => ⟨hk_.1.1.1.1, hk_.1.1.1.2, hk_.1.1.2⟩) | (intro k_ hk_; refine ⟨?_, ?_, ?_⟩ <;> (intro e_; revert hk_; simp [e_])))); have n1_ := Aside0.mk (Kd.R_reok rfl hy0 (fun k_ e_ => HO_10.out.1 k_ e_)); have n2_ := Aside0.mk (Kd.R_mono (ok' := fun k_ => some k_ ≠ (v310 : Value).ownBlock ∧ some k_ ≠ (v324 : Value).ownBlock ∧ some k_ ≠ (.slice Ao69 t332.length co69 : Value).ownBlock) (Kd.R_keptB ((Kd.R_apart' HO_11.out (Kd.R_typed HO_10.out) (by decide))) hkp (by first | exact (fun k_ hk_ hs_ => (hk_.2) hs_) | (intro k_ hk_ hs_; have h2_ : some k_ = _ := hs_; revert hk_; simp [h2_]))) (by first | exact (fun k_ hk_ => ⟨hk_.1.1.1.1, hk_.1.1.1.2, hk_.1.1.2⟩) | (intro k_ hk_; refine ⟨?_, ?_, ?_⟩ <;> (intro e_; revert hk_; simp [e_])))); have n3_ := Aside0.mk (Kd.R_mono (ok' := fun k_ => some k_ ≠ (v310 : Value).ownBlock ∧ some k_ ≠ (.slice Ao43 t316.length co43 : Value).ownBlock ∧ some k_ ≠ (.slice Ao69 t332.length co69 : Value).ownBlock) (Kd.R_keptB ((Kd.R_apart' HO_13.out (Kd.R_typed HO_10.out) (by decide))) hkp (by first | exact (fun k_ hk_ hs_ => (hk_.2) hs_) | (intro k_ hk_ hs_; have h2_ : some k_ = _ := hs_; revert hk_; simp [h2_]))) (by first | exact (fun k_ hk_ => ⟨hk_.1.1.1.1, hk_.1.1.1.2, hk_.1.1.2⟩) | (intro k_ hk_; refine ⟨?_, ?_, ?_⟩ <;> (intro e_; revert hk_; simp [e_])))); have n4_ := Aside0.mk (Kd.R_mono (ok' := fun k_ => some k_ ≠ (.slice Ao72 t336.length co72 : Value).ownBlock) (Kd.R_keptB ((Kd.R_apart' HO_323000.out (Kd.R_typed HO_10.out) (by decide))) hkp (by first | exact (fun k_ hk_ hs_ => (hk_.2) hs_) | (intro k_ hk_ hs_; have h2_ : some k_ = _ := hs_; revert hk_; simp [h2_]))) (by first | exact (fun k_ hk_ => hk_.1.1.2) | (intro k_ hk_; (intro e_; revert hk_; simp [e_])))); have n5_ := Aside0.mk (blk_kept (by (with_reducible repeat (first | refine blk_drewN ?_ _ | refine blk_drew ?_ | refine blk_alloc ?_ _)); exact BK297.out) hkp (fun hs_ => (fun e_ => (Kd.R_ne HO_10.out BK297.out (by decide)) e_) hs_)); have n6_ := Aside0.mk (blk_kept (by (with_reducible repeat (first | refine blk_drewN ?_ _ | refine blk_drew ?_ | refine blk_alloc ?_ _)); exact BK322.out) hkp (fun hs_ => (fun e_ => (Kd.R_ne HO_10.out BK322.out (by decide)) e_) hs_)); have n7_ := Aside0.mk (Kd.R_mono (ok' := fun k_ => some k_ ≠ (.slice Ao42 t313.length co42 : Value).ownBlock) (Kd.R_keptB (HO330.out) hkp (by first | exact (fun k_ hk_ hs_ => (hk_.2) hs_) | (intro k_ hk_ hs_; have h2_ : some k_ = _ := hs_; revert hk_; simp [h2_]))) (by first | exact (fun k_ hk_ => hk_.1.2) | (intro k_ hk_; (intro e_; revert hk_; simp [e_])))); have n8_ := Aside0.mk (Kd.R_mono (ok' := fun k_ => some k_ ≠ (v310 : Value).ownBlock ∧ some k_ ≠ (.slice Ao43 t316.length co43 : Value).ownBlock ∧ some k_ ≠ (v324 : Value).ownBlock) (Kd.R_keptB ((Kd.R_apart' HO334.out (Kd.R_typed HO_10.out) (by decide))) hkp (by first | exact (fun k_ hk_ hs_ => (hk_.2) hs_) | (intro k_ hk_ hs_; have h2_ : some k_ = _ := hs_; revert hk_; simp [h2_]))) (by first | exact (fun k_ hk_ => ⟨hk_.1.1.1.1.2, hk_.1.1.1.2, hk_.1.1.2⟩) | (intro k_ hk_; refine ⟨?_, ?_, ?_⟩ <;> (intro e_; revert hk_; simp [e_])))); have n9_ := Aside0.mk (Kd.R_mono (ok' := fun k_ => some k_ ≠ (.slice Ao39 t319.length co39 : Value).ownBlock) (Kd.R_keptB ((Kd.R_apart' HO338.out (Kd.R_typed HO_10.out) (by decide))) hkp (by first | exact (fun k_ hk_ hs_ => (hk_.2) hs_) | (intro k_ hk_ hs_; have h2_ : some k_ = _ := hs_; revert hk_; simp [h2_]))) (by first | exact (fun k_ hk_ => hk_.1.1.2) | (intro k_ hk_; (intro e_; revert hk_; simp [e_])))); have n10_ := Aside0.mk (hb); clear HO_8; clear HO_10; clear HO_11; clear HO_13; clear HO_323000; clear BK297; clear BK322; clear HO330; clear HO334; clear HO338; clear HB; have HO_8 := n0_; have HO_10 := n1_; have HO_11 := n2_; have HO_13 := n3_; have HO_323000 := n4_; have BK297 := n5_; have BK322 := n6_; have HO330 := n7_; have HO334 := n8_; have HO338 := n9_; have HB := n10_; clear n0_ n1_ n2_ n3_ n4_ n5_ n6_ n7_ n8_ n9_ n10_; (try clear hb); (try clear hkp); (try clear hy0)) | ((with_reducible refine gate_callee (f := 23) rfl ?_); refine goesL_ (some 85) rfl rfl Try.func23 (by kernel_rfl) rfl #[.slice Ao43 t316.length co43, .int .i64 t340] rfl (by (try simp only [List.map_toArray, List.map_cons, List.map_nil]); first | done | rfl | (simp only [List.length_drop, List.length_take]; rfl)) ?_; (with_reducible refine (laws_markIntS.calls kj21 (fun k_ => some k_ = (.slice Ao43 t316.length co43 : Value).ownBlock) (.slice Ao43 t316.length co43) t316 t340 t342 t343 w _ ?side1 ?side2 A62.out).mono ?_); (case side1 => repeat (first | (with_reducible first | exact HB.out | apply below_alloc | apply pw_below_drewN | apply below_drew1 | refine below_set ?_ GE297.out | refine below_set ?_ GE322.out) | exact HB.out)); (case side2 => exact Kd.R_tight rfl HO_11.out); rintro e w75 ⟨rfl, hy0, hb, hkp⟩; refine ⟨_, rfl, ?_⟩; have n0_ := Aside0.mk (Kd.R_mono (ok' := fun k_ => some k_ ≠ (.slice Ao43 t316.length co43 : Value).ownBlock ∧ some k_ ≠ (v324 : Value).ownBlock ∧ some k_ ≠ (.slice Ao69 t332.length co69 : Value).ownBlock) (Kd.R_keptB (HO_8.out) hkp (by first | exact (fun k_ hk_ hs_ => (hk_.1) hs_) | (intro k_ hk_ hs_; have h2_ : some k_ = _ := hs_; revert hk_; simp [h2_]))) (by first | exact (fun k_ hk_ => ⟨hk_.1.1, hk_.1.2.1, hk_.1.2.2⟩) | (intro k_ hk_; refine ⟨?_, ?_, ?_⟩ <;> (intro e_; revert hk_; simp [e_])))); have n1_ := Aside0.mk (Kd.R_mono (ok' := fun k_ => some k_ ≠ (.slice Ao66 t328.length co66 : Value).ownBlock) (Kd.R_keptB ((Kd.R_apart' HO_10.out (Kd.R_typed HO_11.out) (by decide))) hkp (by first | exact (fun k_ hk_ hs_ => (hk_.2) hs_) | (intro k_ hk_ hs_; have h2_ : some k_ = _ := hs_; revert hk_; simp [h2_]))) (by first | exact (fun k_ hk_ => hk_.1.1.2) | (intro k_ hk_; (intro e_; revert hk_; simp [e_])))); have n2_ := Aside0.mk (Kd.R_reok rfl hy0 (fun k_ e_ => HO_11.out.1 k_ e_)); have n3_ := Aside0.mk (Kd.R_mono (ok' := fun k_ => some k_ ≠ (v310 : Value).ownBlock ∧ some k_ ≠ (.slice Ao43 t316.length co43 : Value).ownBlock ∧ some k_ ≠ (.slice Ao69 t332.length co69 : Value).ownBlock) (Kd.R_keptB (HO_13.out) hkp (by first | exact (fun k_ hk_ hs_ => (hk_.2.1) hs_) | (intro k_ hk_ hs_; have h2_ : some k_ = _ := hs_; revert hk_; simp [h2_]))) (by first | exact (fun k_ hk_ => ⟨hk_.1.1, hk_.1.2.1, hk_.1.2.2⟩) | (intro k_ hk_; refine ⟨?_, ?_, ?_⟩ <;> (intro e_; revert hk_; simp [e_])))); have n4_ := Aside0.mk (Kd.R_mono (ok' := fun k_ => some k_ ≠ (.slice Ao72 t336.length co72 : Value).ownBlock) (Kd.R_keptB ((Kd.R_apart' HO_323000.out (Kd.R_typed HO_11.out) (by decide))) hkp (by first | exact (fun k_ hk_ hs_ => (hk_.2) hs_) | (intro k_ hk_ hs_; have h2_ : some k_ = _ := hs_; revert hk_; simp [h2_]))) (by first | exact (fun k_ hk_ => hk_.1.1) | (intro k_ hk_; (intro e_; revert hk_; simp [e_])))); have n5_ := Aside0.mk (blk_kept (by (with_reducible repeat (first | refine blk_drewN ?_ _ | refine blk_drew ?_ | refine blk_alloc ?_ _)); exact BK297.out) hkp (fun hs_ => (fun e_ => (Kd.R_ne HO_11.out BK297.out (by decide)) e_) hs_)); have n6_ := Aside0.mk (blk_kept (by (with_reducible repeat (first | refine blk_drewN ?_ _ | refine blk_drew ?_ | refine blk_alloc ?_ _)); exact BK322.out) hkp (fun hs_ => (fun e_ => (Kd.R_ne HO_11.out BK322.out (by decide)) e_) hs_)); have n7_ := Aside0.mk (Kd.R_mono (ok' := fun k_ => some k_ ≠ (.slice Ao42 t313.length co42 : Value).ownBlock) (Kd.R_keptB ((Kd.R_apart' HO330.out (Kd.R_typed HO_11.out) (by decide))) hkp (by first | exact (fun k_ hk_ hs_ => (hk_.2) hs_) | (intro k_ hk_ hs_; have h2_ : some k_ = _ := hs_; revert hk_; simp [h2_]))) (by first | exact (fun k_ hk_ => hk_.1.1) | (intro k_ hk_; (intro e_; revert hk_; simp [e_])))); have n8_ := Aside0.mk (Kd.R_mono (ok' := fun k_ => some k_ ≠ (v310 : Value).ownBlock ∧ some k_ ≠ (.slice Ao43 t316.length co43 : Value).ownBlock ∧ some k_ ≠ (v324 : Value).ownBlock) (Kd.R_keptB (HO334.out) hkp (by first | exact (fun k_ hk_ hs_ => (hk_.2.1) hs_) | (intro k_ hk_ hs_; have h2_ : some k_ = _ := hs_; revert hk_; simp [h2_]))) (by first | exact (fun k_ hk_ => ⟨hk_.1.1, hk_.1.2.1, hk_.1.2.2⟩) | (intro k_ hk_; refine ⟨?_, ?_, ?_⟩ <;> (intro e_; revert hk_; simp [e_])))); have n9_ := Aside0.mk (Kd.R_mono (ok' := fun k_ => some k_ ≠ (.slice Ao39 t319.length co39 : Value).ownBlock) (Kd.R_keptB ((Kd.R_apart' HO338.out (Kd.R_typed HO_11.out) (by decide))) hkp (by first | exact (fun k_ hk_ hs_ => (hk_.2) hs_) | (intro k_ hk_ hs_; have h2_ : some k_ = _ := hs_; revert hk_; simp [h2_]))) (by first | exact (fun k_ hk_ => hk_.1.1) | (intro k_ hk_; (intro e_; revert hk_; simp [e_])))); have n10_ := Aside0.mk (hb); clear HO_8; clear HO_10; clear HO_11; clear HO_13; clear HO_323000; clear BK297; clear BK322; clear HO330; clear HO334; clear HO338; clear HB; have HO_8 := n0_; have HO_10 := n1_; have HO_11 := n2_; have HO_13 := n3_; have HO_323000 := n4_; have BK297 := n5_; have BK322 := n6_; have HO330 := n7_; have HO334 := n8_; have HO338 := n9_; have HB := n10_; clear n0_ n1_ n2_ n3_ n4_ n5_ n6_ n7_ n8_ n9_ n10_; (try clear hb); (try clear hkp); (try clear hy0); have hnb76 := NB322_297.out; have hnc76 := NB297_322.out; have hcz77_0 : w75.cell? ⟨gb322, 0, none⟩ = some (.slice Ao39 t319.length co39) := (blk_cell BK322.out 0).trans rfl; have hfz77_0 := blk_frozen BK322.out 0) | ((with_reducible refine gate_callee (f := 24) rfl ?_); refine goesL_ (some 88) rfl rfl Try.func24 (by kernel_rfl) rfl #[.agg #[.slice Ao39 t319.length co39], .int .i64 t342] rfl (by (try simp only [List.map_toArray, List.map_cons, List.map_nil]); first | done | rfl | (simp only [List.length_drop, List.length_take]; rfl)) ?_; (with_reducible refine (laws_markPool.calls kj21 (fun k_ => some k_ = (.slice Ao39 t319.length co39 : Value).ownBlock) (.slice Ao39 t319.length co39) t319 t342 t344 t345 w _ ?side1 ?side2 A63.out).mono ?_); (case side1 => repeat (first | (with_reducible first | exact HB.out | apply below_alloc | apply pw_below_drewN | apply below_drew1 | refine below_set ?_ GE297.out | refine below_set ?_ GE322.out) | exact HB.out)); (case side2 => exact Kd.R_tight rfl HO_323000.out); rintro e w78 ⟨rfl, hy0, hb, hkp⟩; refine ⟨_, rfl, ?_⟩; have n0_ := Aside0.mk (Kd.R_mono (ok' := fun k_ => some k_ ≠ (.slice Ao43 t316.length co43 : Value).ownBlock ∧ some k_ ≠ (v324 : Value).ownBlock ∧ some k_ ≠ (.slice Ao69 t332.length co69 : Value).ownBlock) (Kd.R_keptB ((Kd.R_apart' HO_8.out (Kd.R_typed HO_323000.out) (by decide))) hkp (by first | exact (fun k_ hk_ hs_ => (hk_.2) hs_) | (intro k_ hk_ hs_; have h2_ : some k_ = _ := hs_; revert hk_; simp [h2_]))) (by first | exact (fun k_ hk_ => ⟨hk_.1.1.1, hk_.1.1.2.1, hk_.1.1.2.2⟩) | (intro k_ hk_; refine ⟨?_, ?_, ?_⟩ <;> (intro e_; revert hk_; simp [e_])))); have n1_ := Aside0.mk (Kd.R_mono (ok' := fun k_ => some k_ ≠ (.slice Ao66 t328.length co66 : Value).ownBlock) (Kd.R_keptB ((Kd.R_apart' HO_10.out (Kd.R_typed HO_323000.out) (by decide))) hkp (by first | exact (fun k_ hk_ hs_ => (hk_.2) hs_) | (intro k_ hk_ hs_; have h2_ : some k_ = _ := hs_; revert hk_; simp [h2_]))) (by first | exact (fun k_ hk_ => hk_.1.1) | (intro k_ hk_; (intro e_; revert hk_; simp [e_])))); have n2_ := Aside0.mk (Kd.R_mono (ok' := fun k_ => some k_ ≠ (v310 : Value).ownBlock ∧ some k_ ≠ (v324 : Value).ownBlock ∧ some k_ ≠ (.slice Ao69 t332.length co69 : Value).ownBlock) (Kd.R_keptB ((Kd.R_apart' HO_11.out (Kd.R_typed HO_323000.out) (by decide))) hkp (by first | exact (fun k_ hk_ hs_ => (hk_.2) hs_) | (intro k_ hk_ hs_; have h2_ : some k_ = _ := hs_; revert hk_; simp [h2_]))) (by first | exact (fun k_ hk_ => ⟨hk_.1.1.1, hk_.1.1.2.1, hk_.1.1.2.2⟩) | (intro k_ hk_; refine ⟨?_, ?_, ?_⟩ <;> (intro e_; revert hk_; simp [e_])))); have n3_ := Aside0.mk (Kd.R_mono (ok' := fun k_ => some k_ ≠ (v310 : Value).ownBlock ∧ some k_ ≠ (.slice Ao43 t316.length co43 : Value).ownBlock ∧ some k_ ≠ (.slice Ao69 t332.length co69 : Value).ownBlock) (Kd.R_keptB ((Kd.R_apart' HO_13.out (Kd.R_typed HO_323000.out) (by decide))) hkp (by first | exact (fun k_ hk_ hs_ => (hk_.2) hs_) | (intro k_ hk_ hs_; have h2_ : some k_ = _ := hs_; revert hk_; simp [h2_]))) (by first | exact (fun k_ hk_ => ⟨hk_.1.1.1, hk_.1.1.2.1, hk_.1.1.2.2⟩) | (intro k_ hk_; refine ⟨?_, ?_, ?_⟩ <;> (intro e_; revert hk_; simp [e_])))); have n4_ := Aside0.mk (Kd.R_reok rfl hy0 (fun k_ e_ => HO_323000.out.1 k_ e_)); have n5_ := Aside0.mk (blk_kept (by (with_reducible repeat (first | refine blk_drewN ?_ _ | refine blk_drew ?_ | refine blk_alloc ?_ _)); exact BK297.out) hkp (fun hs_ => (fun e_ => (Kd.R_ne HO_323000.out BK297.out (by decide)) e_) hs_)); have n6_ := Aside0.mk (blk_kept (by (with_reducible repeat (first | refine blk_drewN ?_ _ | refine blk_drew ?_ | refine blk_alloc ?_ _)); exact BK322.out) hkp (fun hs_ => (fun e_ => (Kd.R_ne HO_323000.out BK322.out (by decide)) e_) hs_)); have n7_ := Aside0.mk (Kd.R_mono (ok' := fun k_ => some k_ ≠ (.slice Ao42 t313.length co42 : Value).ownBlock) (Kd.R_keptB ((Kd.R_apart' HO330.out (Kd.R_typed HO_323000.out) (by decide))) hkp (by first | exact (fun k_ hk_ hs_ => (hk_.2) hs_) | (intro k_ hk_ hs_; have h2_ : some k_ = _ := hs_; revert hk_; simp [h2_]))) (by first | exact (fun k_ hk_ => hk_.1.1) | (intro k_ hk_; (intro e_; revert hk_; simp [e_])))); have n8_ := Aside0.mk (Kd.R_mono (ok' := fun k_ => some k_ ≠ (v310 : Value).ownBlock ∧ some k_ ≠ (.slice Ao43 t316.length co43 : Value).ownBlock ∧ some k_ ≠ (v324 : Value).ownBlock) (Kd.R_keptB ((Kd.R_apart' HO334.out (Kd.R_typed HO_323000.out) (by decide))) hkp (by first | exact (fun k_ hk_ hs_ => (hk_.2) hs_) | (intro k_ hk_ hs_; have h2_ : some k_ = _ := hs_; revert hk_; simp [h2_]))) (by first | exact (fun k_ hk_ => ⟨hk_.1.1.1, hk_.1.1.2.1, hk_.1.1.2.2⟩) | (intro k_ hk_; refine ⟨?_, ?_, ?_⟩ <;> (intro e_; revert hk_; simp [e_])))); have n9_ := Aside0.mk (Kd.R_mono (ok' := fun k_ => some k_ ≠ (.slice Ao39 t319.length co39 : Value).ownBlock) (Kd.R_keptB (HO338.out) hkp (by first | exact (fun k_ hk_ hs_ => (hk_) hs_) | (intro k_ hk_ hs_; have h2_ : some k_ = _ := hs_; revert hk_; simp [h2_]))) (by first | exact (fun k_ hk_ => hk_.1) | (intro k_ hk_; (intro e_; revert hk_; simp [e_])))); have n10_ := Aside0.mk (hb); clear HO_8; clear HO_10; clear HO_11; clear HO_13; clear HO_323000; clear BK297; clear BK322; clear HO330; clear HO334; clear HO338; clear HB; have HO_8 := n0_; have HO_10 := n1_; have HO_11 := n2_; have HO_13 := n3_; have HO_323000 := n4_; have BK297 := n5_; have BK322 := n6_; have HO330 := n7_; have HO334 := n8_; have HO338 := n9_; have HB := n10_; clear n0_ n1_ n2_ n3_ n4_ n5_ n6_ n7_ n8_ n9_ n10_; (try clear hb); (try clear hkp); (try clear hy0)))
                    (try simp only [Act.put, List.setIfInBounds_toArray, List.set_cons_zero, List.set_cons_succ])
                    go_cut [101] (fun v101 wc => ∃ (kq : Nat) (x101_63 : Bool), v101 = .bool x101_63 ∧ Aside0 (laws_FnExactLiarsIn.j1 kq l0 l1 t309 t312 t323 x101_63 l2_0 = some r) ∧ Aside0 (kq ≤ kj21) ∧ Aside0 (Kd.R (Kd.int .i64) 3 wc w.heap.size (fun k_ => some k_ ≠ (v324 : Value).ownBlock) v310 t309) ∧ Aside0 (Kd.R (Kd.int .i64) 3 wc w.heap.size (fun k_ => some k_ ≠ (v310 : Value).ownBlock) v324 t323) ∧ Aside0 (Kd.R k67 67 wc w.heap.size (fun _ => True) (.slice Ao39 t319.length co39) t345) ∧ Aside0 (wc.heap[gb297]? = some (.cells #[(.slice A2_0 l2_0.length c2_0)] 26 (0, 0))) ∧ Aside0 (wc.heap[gb322]? = some (.cells #[(.slice Ao39 t319.length co39)] 35 (0, 0))) ∧ Aside0 (Below w.heap.size w wc))
                    case first =>
                      have H := HC64.out
                      clear HC64
                      by_cases c79 : t344 < 0
                      · rw [if_pos c79] at H
                        have c79b0 : decide (t344 < 0) = true := decide_eq_true c79
                        clear c79
                        (first | rw [c79b0] | (simp only [i64_w, i32_w]; rw [c79b0]) | skip)
                        have H' := Aside0.mk H
                        clear H
                        go_wp2
                        go_meet
                        case rel => exact ⟨_, (true), (by first | rfl | (simp; done) | (simp [*]; done)), H', ⟨by have := HJ21.out; first | omega | exact Nat.le_refl _⟩, ⟨by (with_reducible repeat (first | apply Kd.R_alloc | apply Kd.R_drewN | apply Kd.R_drew)); exact Kd.R_mono HO_8.out (fun _ hk => hk.2.1)⟩, ⟨by (with_reducible repeat (first | apply Kd.R_alloc | apply Kd.R_drewN | apply Kd.R_drew)); exact Kd.R_mono HO_13.out (fun _ hk => hk.1)⟩, ⟨by (with_reducible repeat (first | apply Kd.R_alloc | apply Kd.R_drewN | apply Kd.R_drew)); exact Kd.R_mono HO_323000.out (fun _ hk => trivial)⟩, ⟨by (with_reducible repeat (first | refine blk_drewN ?_ _ | refine blk_drew ?_ | refine blk_alloc ?_ _)); exact BK297.out⟩, ⟨by (with_reducible repeat (first | refine blk_drewN ?_ _ | refine blk_drew ?_ | refine blk_alloc ?_ _)); exact BK322.out⟩, ⟨by repeat (first | (with_reducible first | exact HB.out | apply below_alloc | apply pw_below_drewN | apply below_drew1 | refine below_set ?_ GE297.out | refine below_set ?_ GE322.out) | exact HB.out)⟩⟩
                      · rw [if_neg c79] at H
                        have c79b0 : decide (t344 < 0) = false := decide_eq_false c79
                        clear c79
                        (first | rw [c79b0] | (simp only [i64_w, i32_w]; rw [c79b0]) | skip)
                        replace H := Option.bind_eq_some_iff.mp H
                        obtain ⟨t346, A800, H⟩ := H
                        replace H : (if t346 = true then (laws_FnExactLiarsIn.j1 kj21 l0 l1 t309 t312 t323 (t326 != t312) l2_0) else (laws_FnExactLiarsIn.j1 kj21 l0 l1 t309 t312 t323 true l2_0)) = some r := H
                        have A80 := Aside0.mk A800
                        clear A800
                        by_cases c81 : t346 = true
                        · subst c81
                          have H1 : (laws_FnExactLiarsIn.j1 kj21 l0 l1 t309 t312 t323 (t326 != t312) l2_0) = some r := by rw [if_pos rfl] at H; exact H
                          clear H
                          have H := H1
                          clear H1
                          have H' := Aside0.mk H
                          clear H
                          obtain ⟨Ao82, co82, eo82⟩ := Kd.R_slice HO_13.out
                          subst eo82
                          obtain ⟨Ao83, co83, eo83⟩ := Kd.R_slice HO_8.out
                          subst eo83
                          go_wp2_with (first | (go_at_call 18; (with_reducible refine (laws_eqIntS.calls kj21 _ _ t323 _ _ t309 true _ ?side1 ?side2 ?side3 ?side4 A80.out).mono ?_); (case side1 => repeat (first | exact (Kd.R_reads' HO_13.out).2.2 | (with_reducible refine Kd.C_alloc ?_ _) | (with_reducible refine Kd.C_drewN ?_ _) | (with_reducible refine Kd.C_drew ?_))); (case side2 => exact (Kd.R_reads' HO_13.out).2.1); (case side3 => repeat (first | exact (Kd.R_reads' HO_8.out).2.2 | (with_reducible refine Kd.C_alloc ?_ _) | (with_reducible refine Kd.C_drewN ?_ _) | (with_reducible refine Kd.C_drew ?_))); (case side4 => exact (Kd.R_reads' HO_8.out).2.1); rintro e w' ⟨rfl, ⟨nd, rfl⟩⟩))
                          go_meet
                          case rel => exact ⟨_, ((t326 != t312)), (by first | rfl | (simp; done) | (simp [*]; done)), H', ⟨by have := HJ21.out; first | omega | exact Nat.le_refl _⟩, ⟨by (with_reducible repeat (first | apply Kd.R_alloc | apply Kd.R_drewN | apply Kd.R_drew)); exact Kd.R_mono HO_8.out (fun _ hk => hk.2.1)⟩, ⟨by (with_reducible repeat (first | apply Kd.R_alloc | apply Kd.R_drewN | apply Kd.R_drew)); exact Kd.R_mono HO_13.out (fun _ hk => hk.1)⟩, ⟨by (with_reducible repeat (first | apply Kd.R_alloc | apply Kd.R_drewN | apply Kd.R_drew)); exact Kd.R_mono HO_323000.out (fun _ hk => trivial)⟩, ⟨by (with_reducible repeat (first | refine blk_drewN ?_ _ | refine blk_drew ?_ | refine blk_alloc ?_ _)); exact BK297.out⟩, ⟨by (with_reducible repeat (first | refine blk_drewN ?_ _ | refine blk_drew ?_ | refine blk_alloc ?_ _)); exact BK322.out⟩, ⟨by repeat (first | (with_reducible first | exact HB.out | apply below_alloc | apply pw_below_drewN | apply below_drew1 | refine below_set ?_ GE297.out | refine below_set ?_ GE322.out) | exact HB.out)⟩⟩
                        · replace c81 := Bool.eq_false_iff.mpr c81
                          subst c81
                          have H1 : (laws_FnExactLiarsIn.j1 kj21 l0 l1 t309 t312 t323 true l2_0) = some r := by rw [if_neg (show ¬ (false = true) by decide)] at H; exact H
                          clear H
                          have H := H1
                          clear H1
                          have H' := Aside0.mk H
                          clear H
                          obtain ⟨Ao84, co84, eo84⟩ := Kd.R_slice HO_13.out
                          subst eo84
                          obtain ⟨Ao85, co85, eo85⟩ := Kd.R_slice HO_8.out
                          subst eo85
                          go_wp2_with (first | (go_at_call 18; (with_reducible refine (laws_eqIntS.calls kj21 _ _ t323 _ _ t309 false _ ?side1 ?side2 ?side3 ?side4 A80.out).mono ?_); (case side1 => repeat (first | exact (Kd.R_reads' HO_13.out).2.2 | (with_reducible refine Kd.C_alloc ?_ _) | (with_reducible refine Kd.C_drewN ?_ _) | (with_reducible refine Kd.C_drew ?_))); (case side2 => exact (Kd.R_reads' HO_13.out).2.1); (case side3 => repeat (first | exact (Kd.R_reads' HO_8.out).2.2 | (with_reducible refine Kd.C_alloc ?_ _) | (with_reducible refine Kd.C_drewN ?_ _) | (with_reducible refine Kd.C_drew ?_))); (case side4 => exact (Kd.R_reads' HO_8.out).2.1); rintro e w' ⟨rfl, ⟨nd, rfl⟩⟩))
                          go_meet
                          case rel => exact ⟨_, (true), (by first | rfl | (simp; done) | (simp [*]; done)), H', ⟨by have := HJ21.out; first | omega | exact Nat.le_refl _⟩, ⟨by (with_reducible repeat (first | apply Kd.R_alloc | apply Kd.R_drewN | apply Kd.R_drew)); exact Kd.R_mono HO_8.out (fun _ hk => hk.2.1)⟩, ⟨by (with_reducible repeat (first | apply Kd.R_alloc | apply Kd.R_drewN | apply Kd.R_drew)); exact Kd.R_mono HO_13.out (fun _ hk => hk.1)⟩, ⟨by (with_reducible repeat (first | apply Kd.R_alloc | apply Kd.R_drewN | apply Kd.R_drew)); exact Kd.R_mono HO_323000.out (fun _ hk => trivial)⟩, ⟨by (with_reducible repeat (first | refine blk_drewN ?_ _ | refine blk_drew ?_ | refine blk_alloc ?_ _)); exact BK297.out⟩, ⟨by (with_reducible repeat (first | refine blk_drewN ?_ _ | refine blk_drew ?_ | refine blk_alloc ?_ _)); exact BK322.out⟩, ⟨by repeat (first | (with_reducible first | exact HB.out | apply below_alloc | apply pw_below_drewN | apply below_drew1 | refine below_set ?_ GE297.out | refine below_set ?_ GE322.out) | exact HB.out)⟩⟩
                    case rest =>
                      clear HC64
                      try clear c1
                      try clear c2
                      try clear p2
                      try clear c4
                      try clear c4b0
                      try clear c4b1
                      try clear c5
                      try clear c6
                      try clear c7
                      try clear c7b0
                      try clear c8
                      try clear c10
                      try clear c10b0
                      try clear c11
                      try clear c13
                      try clear c14
                      try clear c15
                      try clear c17
                      try clear c18
                      try clear c19
                      try clear c20
                      try clear c21
                      try clear c22
                      try clear c23
                      try clear c24
                      try clear c40
                      try clear c46
                      try clear c51
                      try clear c54
                      try clear c57
                      try clear c60
                      try clear c76
                      try clear c79
                      try clear c79b0
                      try clear c81
                      try clear hcz12_0
                      try clear hcz24_0
                      try clear hcz36_0
                      try clear hcz41_0
                      try clear hcz77_0
                      try clear hfz12_0
                      try clear hfz24_0
                      try clear hfz36_0
                      try clear hfz41_0
                      try clear hfz77_0
                      try clear p2
                      obtain ⟨kq, x101_63, rfl, HA, HJ63, HO_8, HO_13, HO_323000, BK297, BK322, HB⟩ := hcut
                      have hl323000_63 := (Kd.R_reads' HO_323000.out).1
                      rw [hl323000_63] at HO_323000
                      (try simp only [hl323000_63])
                      (try simp only [hl323000_63] at BK297)
                      (try simp only [hl323000_63] at BK322)
                      (try simp only [hl323000_63] at HO_8)
                      (try simp only [hl323000_63] at HO_13)
                      cases kq with
                      | zero => exact absurd HA.out (by simp [laws_FnExactLiarsIn.j1])
                      | succ kj63 =>
                        have H := HA.out
                        clear HA
                        simp only [laws_FnExactLiarsIn.j1] at H
                        by_cases c86 : x101_63 = true
                        · subst c86
                          have H1 : (some false) = some r := by rw [if_pos rfl] at H; exact H
                          clear H
                          have H := H1
                          clear H1
                          obtain rfl := Option.some.inj H
                          go_wp2
                          go_ret
                          exact ⟨by first | rfl | (simp [errW_none, errW_some] <;> rfl) | (simp [*, errW_none, errW_some] <;> rfl), by repeat (first | (with_reducible first | exact HB.out | apply below_alloc | apply pw_below_drewN | apply below_drew1 | refine below_set ?_ GE297.out | refine below_set ?_ GE322.out) | exact HB.out)⟩
                        · replace c86 := Bool.eq_false_iff.mpr c86
                          subst c86
                          have H1 : ((laws_markIntS.f kj63 t323 1).bind fun bt347 => ((laws_heldIntS.f kj63 bt347.2 1).bind fun t349 => (if t349 < 0 then (some false) else (if t349 = bt347.1 then ((laws_toBlockS.f kj63 l0).bind fun t350 => ((laws_toIntS.f kj63 l1).bind fun t353 => ((laws_toPool.f kj63 l2_0).bind fun t356 => ((impl_LiarsIn.f kj63 t350 t353 t356).bind fun bt359 => ((laws_eqIntS.f kj63 bt359.1 t309).bind fun t363 => (if t363 = true then (laws_FnExactLiarsIn.j2 kj63 bt347.2 bt347.1 (bt359.2 != t312)) else (laws_FnExactLiarsIn.j2 kj63 bt347.2 bt347.1 true))))))) else (some false))))) = some r := by rw [if_neg (show ¬ (false = true) by decide)] at H; exact H
                          clear H
                          have H := H1
                          clear H1
                          replace H := Option.bind_eq_some_iff.mp H
                          obtain ⟨⟨t347, t348⟩, A870, H⟩ := H
                          replace H : ((laws_heldIntS.f kj63 t348 1).bind fun t349 => (if t349 < 0 then (some false) else (if t349 = t347 then ((laws_toBlockS.f kj63 l0).bind fun t350 => ((laws_toIntS.f kj63 l1).bind fun t353 => ((laws_toPool.f kj63 l2_0).bind fun t356 => ((impl_LiarsIn.f kj63 t350 t353 t356).bind fun bt359 => ((laws_eqIntS.f kj63 bt359.1 t309).bind fun t363 => (if t363 = true then (laws_FnExactLiarsIn.j2 kj63 t348 t347 (bt359.2 != t312)) else (laws_FnExactLiarsIn.j2 kj63 t348 t347 true))))))) else (some false)))) = some r := H
                          have A87 := Aside0.mk A870
                          clear A870
                          replace H := Option.bind_eq_some_iff.mp H
                          obtain ⟨t349, A880, H⟩ := H
                          replace H : (if t349 < 0 then (some false) else (if t349 = t347 then ((laws_toBlockS.f kj63 l0).bind fun t350 => ((laws_toIntS.f kj63 l1).bind fun t353 => ((laws_toPool.f kj63 l2_0).bind fun t356 => ((impl_LiarsIn.f kj63 t350 t353 t356).bind fun bt359 => ((laws_eqIntS.f kj63 bt359.1 t309).bind fun t363 => (if t363 = true then (laws_FnExactLiarsIn.j2 kj63 t348 t347 (bt359.2 != t312)) else (laws_FnExactLiarsIn.j2 kj63 t348 t347 true))))))) else (some false))) = some r := H
                          have A88 := Aside0.mk A880
                          clear A880
                          by_cases c89 : t349 < 0
                          · rw [if_pos c89] at H
                            have c89b0 : decide (t349 < 0) = true := decide_eq_true c89
                            clear c89
                            obtain rfl := Option.some.inj H
                            obtain ⟨Ao90, co90, eo90⟩ := Kd.R_slice HO_13.out
                            subst eo90
                            go_wp2_with (first | ((with_reducible refine gate_callee (f := 23) rfl ?_); refine goesL_ (some 104) rfl rfl Try.func23 (by kernel_rfl) rfl #[.slice Ao90 t323.length co90, .int .i64 1] rfl (by (try simp only [List.map_toArray, List.map_cons, List.map_nil]); first | done | rfl | (simp only [List.length_drop, List.length_take]; rfl)) ?_; (with_reducible refine (laws_markIntS.calls kj63 (fun k_ => some k_ = (.slice Ao90 t323.length co90 : Value).ownBlock) (.slice Ao90 t323.length co90) t323 1 t347 t348 w _ ?side1 ?side2 A87.out).mono ?_); (case side1 => repeat (first | (with_reducible first | exact HB.out | apply below_alloc | apply pw_below_drewN | apply below_drew1 | refine below_set ?_ GE297.out | refine below_set ?_ GE322.out) | exact HB.out)); (case side2 => exact Kd.R_tight rfl HO_13.out); rintro e w91 ⟨rfl, hy0, hb, hkp⟩; refine ⟨_, rfl, ?_⟩; have n0_ := Aside0.mk (Kd.R_mono (ok' := fun k_ => some k_ ≠ (.slice Ao90 t323.length co90 : Value).ownBlock) (Kd.R_keptB (HO_8.out) hkp (by first | exact (fun k_ hk_ hs_ => (hk_) hs_) | (intro k_ hk_ hs_; have h2_ : some k_ = _ := hs_; revert hk_; simp [h2_]))) (by first | exact (fun k_ hk_ => hk_.1) | (intro k_ hk_; (intro e_; revert hk_; simp [e_])))); have n1_ := Aside0.mk (Kd.R_reok rfl hy0 (fun k_ e_ => HO_13.out.1 k_ e_)); have n2_ := Aside0.mk (Kd.R_mono (ok' := fun k_ => True) (Kd.R_keptB ((Kd.R_apart' HO_323000.out (Kd.R_typed HO_13.out) (by decide))) hkp (by first | exact (fun k_ hk_ hs_ => (hk_.2) hs_) | (intro k_ hk_ hs_; have h2_ : some k_ = _ := hs_; revert hk_; simp [h2_]))) (fun k_ hk_ => trivial)); have n3_ := Aside0.mk (blk_kept (by (with_reducible repeat (first | refine blk_drewN ?_ _ | refine blk_drew ?_ | refine blk_alloc ?_ _)); exact BK297.out) hkp (fun hs_ => (fun e_ => (Kd.R_ne HO_13.out BK297.out (by decide)) e_) hs_)); have n4_ := Aside0.mk (blk_kept (by (with_reducible repeat (first | refine blk_drewN ?_ _ | refine blk_drew ?_ | refine blk_alloc ?_ _)); exact BK322.out) hkp (fun hs_ => (fun e_ => (Kd.R_ne HO_13.out BK322.out (by decide)) e_) hs_)); have n5_ := Aside0.mk (hb); clear HO_8; clear HO_13; clear HO_323000; clear BK297; clear BK322; clear HB; have HO_8 := n0_; have HO_13 := n1_; have HO_323000 := n2_; have BK297 := n3_; have BK322 := n4_; have HB := n5_; clear n0_ n1_ n2_ n3_ n4_ n5_; (try clear hb); (try clear hkp); (try clear hy0)) | ((with_reducible refine gate_callee (f := 25) rfl ?_); refine goesL_ (some 107) rfl rfl Try.func25 (by kernel_rfl) rfl #[.slice Ao90 t348.length co90, .int .i64 1] rfl (by (try simp only [List.map_toArray, List.map_cons, List.map_nil]); first | done | (rw [show t348.length = t323.length from (Kd.R_reads' HO_13.out).1.symm] <;> rfl) | rfl | (simp only [List.length_drop, List.length_take]; rfl)) ?_; (with_reducible refine (laws_heldIntS.calls kj63 _ _ t348 1 t349 _ ?side1 ?side2 A88.out).mono ?_); (case side1 => repeat (first | exact (Kd.R_reads' HO_13.out).2.2 | (with_reducible refine Kd.C_alloc ?_ _) | (with_reducible refine Kd.C_drewN ?_ _) | (with_reducible refine Kd.C_drew ?_))); (case side2 => rw [show t348.length = t323.length from (Kd.R_reads' HO_13.out).1.symm]; exact (Kd.R_reads' HO_13.out).2.1); rintro e w' ⟨rfl, ⟨nd, rfl⟩⟩; refine ⟨_, rfl, ?_⟩))
                            go_ret
                            exact ⟨by first | rfl | (simp [errW_none, errW_some] <;> rfl) | (simp [*, errW_none, errW_some] <;> rfl), by repeat (first | (with_reducible first | exact HB.out | apply below_alloc | apply pw_below_drewN | apply below_drew1 | refine below_set ?_ GE297.out | refine below_set ?_ GE322.out) | exact HB.out)⟩
                          · rw [if_neg c89] at H
                            have c89b0 : decide (t349 < 0) = false := decide_eq_false c89
                            clear c89
                            by_cases c92 : t349 = t347
                            · rw [if_pos c92] at H
                              have c92b0 : (t349 == t347) = true := beq_iff_eq.mpr c92
                              have c92b1 : (t349 != t347) = false := bne_eq_false_iff_eq.mpr c92
                              clear c92
                              replace H := Option.bind_eq_some_iff.mp H
                              obtain ⟨t350, A930, H⟩ := H
                              replace H : ((laws_toIntS.f kj63 l1).bind fun t353 => ((laws_toPool.f kj63 l2_0).bind fun t356 => ((impl_LiarsIn.f kj63 t350 t353 t356).bind fun bt359 => ((laws_eqIntS.f kj63 bt359.1 t309).bind fun t363 => (if t363 = true then (laws_FnExactLiarsIn.j2 kj63 t348 t347 (bt359.2 != t312)) else (laws_FnExactLiarsIn.j2 kj63 t348 t347 true)))))) = some r := H
                              have A93 := Aside0.mk A930
                              clear A930
                              replace H := Option.bind_eq_some_iff.mp H
                              obtain ⟨t353, A940, H⟩ := H
                              replace H : ((laws_toPool.f kj63 l2_0).bind fun t356 => ((impl_LiarsIn.f kj63 t350 t353 t356).bind fun bt359 => ((laws_eqIntS.f kj63 bt359.1 t309).bind fun t363 => (if t363 = true then (laws_FnExactLiarsIn.j2 kj63 t348 t347 (bt359.2 != t312)) else (laws_FnExactLiarsIn.j2 kj63 t348 t347 true))))) = some r := H
                              have A94 := Aside0.mk A940
                              clear A940
                              replace H := Option.bind_eq_some_iff.mp H
                              obtain ⟨t356, A950, H⟩ := H
                              replace H : ((impl_LiarsIn.f kj63 t350 t353 t356).bind fun bt359 => ((laws_eqIntS.f kj63 bt359.1 t309).bind fun t363 => (if t363 = true then (laws_FnExactLiarsIn.j2 kj63 t348 t347 (bt359.2 != t312)) else (laws_FnExactLiarsIn.j2 kj63 t348 t347 true)))) = some r := H
                              have A95 := Aside0.mk A950
                              clear A950
                              replace H := Option.bind_eq_some_iff.mp H
                              obtain ⟨⟨t359, t362⟩, A960, H⟩ := H
                              replace H : ((laws_eqIntS.f kj63 t359 t309).bind fun t363 => (if t363 = true then (laws_FnExactLiarsIn.j2 kj63 t348 t347 (t362 != t312)) else (laws_FnExactLiarsIn.j2 kj63 t348 t347 true))) = some r := H
                              have A96 := Aside0.mk A960
                              clear A960
                              have HC97 := Aside0.mk H
                              clear H
                              obtain ⟨Ao98, co98, eo98⟩ := Kd.R_slice HO_13.out
                              subst eo98
                              try go_wp2_with (first | ((with_reducible refine gate_callee (f := 23) rfl ?_); refine goesL_ (some 104) rfl rfl Try.func23 (by kernel_rfl) rfl #[.slice Ao98 t323.length co98, .int .i64 1] rfl (by (try simp only [List.map_toArray, List.map_cons, List.map_nil]); first | done | rfl | (simp only [List.length_drop, List.length_take]; rfl)) ?_; (with_reducible refine (laws_markIntS.calls kj63 (fun k_ => some k_ = (.slice Ao98 t323.length co98 : Value).ownBlock) (.slice Ao98 t323.length co98) t323 1 t347 t348 w _ ?side1 ?side2 A87.out).mono ?_); (case side1 => repeat (first | (with_reducible first | exact HB.out | apply below_alloc | apply pw_below_drewN | apply below_drew1 | refine below_set ?_ GE297.out | refine below_set ?_ GE322.out) | exact HB.out)); (case side2 => exact Kd.R_tight rfl HO_13.out); rintro e w99 ⟨rfl, hy0, hb, hkp⟩; refine ⟨_, rfl, ?_⟩; have n0_ := Aside0.mk (Kd.R_mono (ok' := fun k_ => some k_ ≠ (.slice Ao98 t323.length co98 : Value).ownBlock) (Kd.R_keptB (HO_8.out) hkp (by first | exact (fun k_ hk_ hs_ => (hk_) hs_) | (intro k_ hk_ hs_; have h2_ : some k_ = _ := hs_; revert hk_; simp [h2_]))) (by first | exact (fun k_ hk_ => hk_.1) | (intro k_ hk_; (intro e_; revert hk_; simp [e_])))); have n1_ := Aside0.mk (Kd.R_reok rfl hy0 (fun k_ e_ => HO_13.out.1 k_ e_)); have n2_ := Aside0.mk (Kd.R_mono (ok' := fun k_ => True) (Kd.R_keptB ((Kd.R_apart' HO_323000.out (Kd.R_typed HO_13.out) (by decide))) hkp (by first | exact (fun k_ hk_ hs_ => (hk_.2) hs_) | (intro k_ hk_ hs_; have h2_ : some k_ = _ := hs_; revert hk_; simp [h2_]))) (fun k_ hk_ => trivial)); have n3_ := Aside0.mk (blk_kept (by (with_reducible repeat (first | refine blk_drewN ?_ _ | refine blk_drew ?_ | refine blk_alloc ?_ _)); exact BK297.out) hkp (fun hs_ => (fun e_ => (Kd.R_ne HO_13.out BK297.out (by decide)) e_) hs_)); have n4_ := Aside0.mk (blk_kept (by (with_reducible repeat (first | refine blk_drewN ?_ _ | refine blk_drew ?_ | refine blk_alloc ?_ _)); exact BK322.out) hkp (fun hs_ => (fun e_ => (Kd.R_ne HO_13.out BK322.out (by decide)) e_) hs_)); have n5_ := Aside0.mk (hb); clear HO_8; clear HO_13; clear HO_323000; clear BK297; clear BK322; clear HB; have HO_8 := n0_; have HO_13 := n1_; have HO_323000 := n2_; have BK297 := n3_; have BK322 := n4_; have HB := n5_; clear n0_ n1_ n2_ n3_ n4_ n5_; (try clear hb); (try clear hkp); (try clear hy0)) | ((with_reducible refine gate_callee (f := 25) rfl ?_); refine goesL_ (some 107) rfl rfl Try.func25 (by kernel_rfl) rfl #[.slice Ao98 t348.length co98, .int .i64 1] rfl (by (try simp only [List.map_toArray, List.map_cons, List.map_nil]); first | done | (rw [show t348.length = t323.length from (Kd.R_reads' HO_13.out).1.symm] <;> rfl) | rfl | (simp only [List.length_drop, List.length_take]; rfl)) ?_; (with_reducible refine (laws_heldIntS.calls kj63 _ _ t348 1 t349 _ ?side1 ?side2 A88.out).mono ?_); (case side1 => repeat (first | exact (Kd.R_reads' HO_13.out).2.2 | (with_reducible refine Kd.C_alloc ?_ _) | (with_reducible refine Kd.C_drewN ?_ _) | (with_reducible refine Kd.C_drew ?_))); (case side2 => rw [show t348.length = t323.length from (Kd.R_reads' HO_13.out).1.symm]; exact (Kd.R_reads' HO_13.out).2.1); rintro e w' ⟨rfl, ⟨nd, rfl⟩⟩; refine ⟨_, rfl, ?_⟩))
                              (try (rw [drewN_self w99]; generalize hq_ : World.drewN w99 _ = w99; have n0_ : Aside0 (Kd.R (Kd.int .i64) 3 w99 w.heap.size (fun k_ => some k_ ≠ (v310 : Value).ownBlock) (.slice Ao98 t323.length co98) t348) := ⟨by rw [← hq_]; exact (by (with_reducible repeat (first | apply Kd.R_alloc | apply Kd.R_drewN | apply Kd.R_drew)); exact HO_13.out)⟩; have n1_ : Aside0 (Kd.R k67 67 w99 w.heap.size (fun _ => True) (.slice Ao39 t345.length co39) t345) := ⟨by rw [← hq_]; exact (by (with_reducible repeat (first | apply Kd.R_alloc | apply Kd.R_drewN | apply Kd.R_drew)); exact HO_323000.out)⟩; have n2_ : Aside0 (Kd.R (Kd.int .i64) 3 w99 w.heap.size (fun k_ => some k_ ≠ (.slice Ao98 t323.length co98 : Value).ownBlock) v310 t309) := ⟨by rw [← hq_]; exact (by (with_reducible repeat (first | apply Kd.R_alloc | apply Kd.R_drewN | apply Kd.R_drew)); exact HO_8.out)⟩; have n3_ : Aside0 (w99.heap[gb297]? = some (.cells #[.slice A2_0 l2_0.length c2_0] 26 (0, 0))) := ⟨by rw [← hq_]; exact (by (with_reducible repeat (first | refine blk_drewN ?_ _ | refine blk_drew ?_ | refine blk_alloc ?_ _)); exact BK297.out)⟩; have n4_ : Aside0 (w99.heap[gb322]? = some (.cells #[.slice Ao39 t345.length co39] 35 (0, 0))) := ⟨by rw [← hq_]; exact (by (with_reducible repeat (first | refine blk_drewN ?_ _ | refine blk_drew ?_ | refine blk_alloc ?_ _)); exact BK322.out)⟩; have n5_ : Aside0 (Below w.heap.size w w99) := ⟨by rw [← hq_]; exact (by repeat (first | (with_reducible first | exact HB.out | apply below_alloc | apply pw_below_drewN | apply below_drew1 | refine below_set ?_ GE297.out | refine below_set ?_ GE322.out) | exact HB.out))⟩; clear HO_13 HO_323000 HO_8 BK297 BK322 HB hq_; have HO_13 := n0_; have HO_323000 := n1_; have HO_8 := n2_; have BK297 := n3_; have BK322 := n4_; have HB := n5_; clear n0_ n1_ n2_ n3_ n4_ n5_))
                              have n0_ := Aside0.mk (Kd.R_drew HO_8.out)
                              have n1_ := Aside0.mk (Kd.R_drew HO_13.out)
                              have n2_ := Aside0.mk (Kd.R_drew HO_323000.out)
                              have n3_ := Aside0.mk (blk_drew BK297.out)
                              have n4_ := Aside0.mk (blk_drew BK322.out)
                              have n5_ := Aside0.mk (below_drew1 HB.out)
                              clear HO_8
                              clear HO_13
                              clear HO_323000
                              clear BK297
                              clear BK322
                              clear HB
                              have HO_8 := n0_
                              have HO_13 := n1_
                              have HO_323000 := n2_
                              have BK297 := n3_
                              have BK322 := n4_
                              have HB := n5_
                              clear n0_ n1_ n2_ n3_ n4_ n5_
                              refine start_ (n := 12) (S := fun w' => w'.cell? ⟨gb297, 0, none⟩ = some (.slice A2_0 l2_0.length c2_0)) (ds := []) #[false, false, false, false, false, false, false, false, false, false, false, false] (by kernel_rfl) rfl rfl ((blk_cell BK297.out 0).trans rfl) (fun hHeld => ?_); refine with_tabW laws_FnExactLiarsIn.tab37 laws_FnExactLiarsIn.bits37 (fun HT_ HW_ => ?_)
                              generalize w99.drew = w100 at HO_8 HO_13 HO_323000 BK297 BK322 HB hHeld ⊢
                              refine pure_ (i := 0) (N := some 114) (v := ?_) (a' := ?_) #[true, false, false, false, false, false, false, false, false, false, false, false] rfl rfl (any_of HT_.out (by kernel_rfl)) (fun _ _ _ h => h) (Or.inl ⟨by rfl, ?_⟩) ?_ ?_
                              rotate_left
                              · intro w'
                                go_simp
                                with_reducible rfl
                              rotate_left
                              · simp only [Act.put, List.setIfInBounds_toArray, List.set_cons_zero, List.set_cons_succ, i64_w, i32_w]
                                rfl
                              refine pure_ (i := 2) (N := some 116) (v := ?_) (a' := ?_) #[true, false, true, false, false, false, false, false, false, false, false, false] rfl rfl (any_of HT_.out (by kernel_rfl)) (fun _ _ _ h => h) (Or.inl ⟨by rfl, ?_⟩) ?_ ?_
                              rotate_left
                              · intro w'
                                go_simp
                                with_reducible rfl
                              rotate_left
                              · simp only [Act.put, List.setIfInBounds_toArray, List.set_cons_zero, List.set_cons_succ, i64_w, i32_w]
                                rfl
                              refine take_ (i := 4) (N := some 118) (v := ?_) (a' := ?_) #[true, false, true, false, true, false, false, false, false, false, false, false] rfl rfl (take_ofW HT_.out HW_.out (by kernel_rfl)) (fun _ _ _ h => h) (Or.inl ⟨by rfl, ?_⟩) hHeld ?_ ?_
                              rotate_left
                              · intro w' s0
                                go_simp
                                with_reducible rfl
                              rotate_left
                              · simp only [Act.put, List.setIfInBounds_toArray, List.set_cons_zero, List.set_cons_succ, i64_w, i32_w]
                                rfl
                              refine one_ (i := 1) (N := some 115) #[true, true, true, false, true, false, false, false, false, false, false, false] rfl rfl (one_of HT_.out (by kernel_rfl)) (by decide) (fun K hK => ?_)
                              refine goes_ Try.func13 (by kernel_rfl) rfl #[.slice A0 l0.length c0] (by rfl) rfl rfl (by (try simp only [List.map_toArray, List.map_cons, List.map_nil]); first | done | rfl | (simp only [List.length_drop, List.length_take]; rfl)) ?_
                              with_reducible refine (laws_toBlockS.calls kj63 _ _ l0 t350 _ ?side1 ?side2 A93.out).mono ?_
                              (case side1 => repeat (first | exact (Kd.C_below HR0.out HB.out) | (with_reducible refine Kd.C_alloc ?_ _) | (with_reducible refine Kd.C_drewN ?_ _) | (with_reducible refine Kd.C_drew ?_)))
                              (case side2 => exact HC0.out)
                              rintro e w101 ⟨v351, rfl, ho0, hb⟩
                              refine ⟨_, rfl, ?_⟩
                              have n0_ := Aside0.mk (Kd.R_below (by (with_reducible repeat (first | apply Kd.R_alloc | apply Kd.R_drewN | apply Kd.R_drew)); exact HO_8.out) hb)
                              have n1_ := Aside0.mk (Kd.R_below (by (with_reducible repeat (first | apply Kd.R_alloc | apply Kd.R_drewN | apply Kd.R_drew)); exact HO_13.out) hb)
                              have n2_ := Aside0.mk (Kd.R_below (by (with_reducible repeat (first | apply Kd.R_alloc | apply Kd.R_drewN | apply Kd.R_drew)); exact HO_323000.out) hb)
                              have n3_ := Aside0.mk (Kd.R_lower ho0 (below_size (by repeat (first | (with_reducible first | exact HB.out | apply below_alloc | apply pw_below_drewN | apply below_drew1 | refine below_set ?_ GE297.out | refine below_set ?_ GE322.out) | exact HB.out))))
                              have n4_ := Aside0.mk (blk_below (g := gb297) (o := .cells #[.slice A2_0 l2_0.length c2_0] 26 (0, 0)) (by (with_reducible repeat (first | refine blk_drewN ?_ _ | refine blk_drew ?_ | refine blk_alloc ?_ _)); exact BK297.out) hb)
                              have n5_ := Aside0.mk (blk_below (g := gb322) (o := .cells #[.slice Ao39 t345.length co39] 35 (0, 0)) (by (with_reducible repeat (first | refine blk_drewN ?_ _ | refine blk_drew ?_ | refine blk_alloc ?_ _)); exact BK322.out) hb)
                              have n6_ := Aside0.mk (below_step (by repeat (first | (with_reducible first | exact HB.out | apply below_alloc | apply pw_below_drewN | apply below_drew1 | refine below_set ?_ GE297.out | refine below_set ?_ GE322.out) | exact HB.out)) hb)
                              clear HO_8
                              clear HO_13
                              clear HO_323000
                              clear BK297
                              clear BK322
                              clear HB
                              have HO_8 := n0_
                              have HO_13 := n1_
                              have HO_323000 := n2_
                              have HO352 := n3_
                              have BK297 := n4_
                              have BK322 := n5_
                              have HB := n6_
                              clear n0_ n1_ n2_ n3_ n4_ n5_ n6_
                              (try clear hb)
                              (try clear hb2)
                              (try clear hk)
                              (try clear hi)
                              (try clear ho0)
                              refine hK.out _ _ ((blk_cell BK297.out 0).trans rfl) (fun hHeld => ?_)
                              clear hK K
                              refine norm_ (a' := ?_) ?_ ?_
                              rotate_left
                              · show Act.put _ (some 115) _ = _
                                simp only [Act.put, List.setIfInBounds_toArray, List.set_cons_zero, List.set_cons_succ, i64_w, i32_w]
                                rfl
                              refine one_ (i := 3) (N := some 117) #[true, true, true, true, true, false, false, false, false, false, false, false] rfl rfl (one_of HT_.out (by kernel_rfl)) (by decide) (fun K hK => ?_)
                              refine goes_ Try.func14 (by kernel_rfl) rfl #[.slice A1 l1.length c1] (by rfl) rfl rfl (by (try simp only [List.map_toArray, List.map_cons, List.map_nil]); first | done | rfl | (simp only [List.length_drop, List.length_take]; rfl)) ?_
                              with_reducible refine (laws_toIntS.calls kj63 _ _ l1 t353 _ ?side1 ?side2 A94.out).mono ?_
                              (case side1 => repeat (first | exact (Kd.C_below HR1.out HB.out) | (with_reducible refine Kd.C_alloc ?_ _) | (with_reducible refine Kd.C_drewN ?_ _) | (with_reducible refine Kd.C_drew ?_)))
                              (case side2 => exact HC1.out)
                              rintro e w102 ⟨v354, rfl, ho0, hb⟩
                              refine ⟨_, rfl, ?_⟩
                              have n0_ := Aside0.mk (Kd.R_elder' (by (with_reducible repeat (first | apply Kd.R_alloc | apply Kd.R_drewN | apply Kd.R_drew)); exact HO_8.out) (Kd.R_base ho0) hb)
                              have n1_ := Aside0.mk (Kd.R_elder' (by (with_reducible repeat (first | apply Kd.R_alloc | apply Kd.R_drewN | apply Kd.R_drew)); exact HO_13.out) (Kd.R_base ho0) hb)
                              have n2_ := Aside0.mk (Kd.R_below (by (with_reducible repeat (first | apply Kd.R_alloc | apply Kd.R_drewN | apply Kd.R_drew)); exact HO_323000.out) hb)
                              have n3_ := Aside0.mk (Kd.R_below (by (with_reducible repeat (first | apply Kd.R_alloc | apply Kd.R_drewN | apply Kd.R_drew)); exact HO352.out) hb)
                              have n4_ := Aside0.mk (Kd.R_lower (Kd.R_new' (Kd.R_new' ho0 (Kd.R_lt (by (with_reducible repeat (first | apply Kd.R_alloc | apply Kd.R_drewN | apply Kd.R_drew)); exact HO_8.out))) (Kd.R_lt (by (with_reducible repeat (first | apply Kd.R_alloc | apply Kd.R_drewN | apply Kd.R_drew)); exact HO_13.out))) (below_size (by repeat (first | (with_reducible first | exact HB.out | apply below_alloc | apply pw_below_drewN | apply below_drew1 | refine below_set ?_ GE297.out | refine below_set ?_ GE322.out) | exact HB.out))))
                              have n5_ := Aside0.mk (blk_below (g := gb297) (o := .cells #[.slice A2_0 l2_0.length c2_0] 26 (0, 0)) (by (with_reducible repeat (first | refine blk_drewN ?_ _ | refine blk_drew ?_ | refine blk_alloc ?_ _)); exact BK297.out) hb)
                              have n6_ := Aside0.mk (blk_below (g := gb322) (o := .cells #[.slice Ao39 t345.length co39] 35 (0, 0)) (by (with_reducible repeat (first | refine blk_drewN ?_ _ | refine blk_drew ?_ | refine blk_alloc ?_ _)); exact BK322.out) hb)
                              have n7_ := Aside0.mk (below_step (by repeat (first | (with_reducible first | exact HB.out | apply below_alloc | apply pw_below_drewN | apply below_drew1 | refine below_set ?_ GE297.out | refine below_set ?_ GE322.out) | exact HB.out)) hb)
                              clear HO_8
                              clear HO_13
                              clear HO_323000
                              clear HO352
                              clear BK297
                              clear BK322
                              clear HB
                              have HO_8 := n0_
                              have HO_13 := n1_
                              have HO_323000 := n2_
                              have HO352 := n3_
                              have HO355 := n4_
                              have BK297 := n5_
                              have BK322 := n6_
                              have HB := n7_
                              clear n0_ n1_ n2_ n3_ n4_ n5_ n6_ n7_
                              (try clear hb)
                              (try clear hb2)
                              (try clear hk)
                              (try clear hi)
                              (try clear ho0)
                              refine hK.out _ _ ((blk_cell BK297.out 0).trans rfl) (fun hHeld => ?_)
                              clear hK K
                              refine norm_ (a' := ?_) ?_ ?_
                              rotate_left
                              · show Act.put _ (some 117) _ = _
                                simp only [Act.put, List.setIfInBounds_toArray, List.set_cons_zero, List.set_cons_succ, i64_w, i32_w]
                                rfl
                              refine one_ (i := 5) (N := some 119) #[true, true, true, true, true, true, false, false, false, false, false, false] rfl rfl (one_of HT_.out (by kernel_rfl)) (by decide) (fun K hK => ?_)
                              refine goes_ Try.func15 (by kernel_rfl) rfl #[.agg #[.slice A2_0 l2_0.length c2_0]] (by rfl) rfl rfl (by (try simp only [List.map_toArray, List.map_cons, List.map_nil]); first | done | rfl | (simp only [List.length_drop, List.length_take]; rfl)) ?_
                              with_reducible refine (laws_toPool.calls kj63 _ _ l2_0 t356 _ ?side1 ?side2 A95.out).mono ?_
                              (case side1 => repeat (first | exact (Kd.C_below HR2_0.out HB.out) | (with_reducible refine Kd.C_alloc ?_ _) | (with_reducible refine Kd.C_drewN ?_ _) | (with_reducible refine Kd.C_drew ?_)))
                              (case side2 => exact HC2_0.out)
                              rintro e w103 ⟨v357, rfl, ho0, hb⟩
                              refine ⟨_, rfl, ?_⟩
                              have n0_ := Aside0.mk (Kd.R_below (by (with_reducible repeat (first | apply Kd.R_alloc | apply Kd.R_drewN | apply Kd.R_drew)); exact HO_8.out) hb)
                              have n1_ := Aside0.mk (Kd.R_below (by (with_reducible repeat (first | apply Kd.R_alloc | apply Kd.R_drewN | apply Kd.R_drew)); exact HO_13.out) hb)
                              have n2_ := Aside0.mk (Kd.R_elder' (by (with_reducible repeat (first | apply Kd.R_alloc | apply Kd.R_drewN | apply Kd.R_drew)); exact HO_323000.out) (Kd.R_base ho0) hb)
                              have n3_ := Aside0.mk (Kd.R_below (by (with_reducible repeat (first | apply Kd.R_alloc | apply Kd.R_drewN | apply Kd.R_drew)); exact HO352.out) hb)
                              have n4_ := Aside0.mk (Kd.R_below (by (with_reducible repeat (first | apply Kd.R_alloc | apply Kd.R_drewN | apply Kd.R_drew)); exact HO355.out) hb)
                              have n5_ := Aside0.mk (Kd.R_lower (Kd.R_new' ho0 (Kd.R_lt (by (with_reducible repeat (first | apply Kd.R_alloc | apply Kd.R_drewN | apply Kd.R_drew)); exact HO_323000.out))) (below_size (by repeat (first | (with_reducible first | exact HB.out | apply below_alloc | apply pw_below_drewN | apply below_drew1 | refine below_set ?_ GE297.out | refine below_set ?_ GE322.out) | exact HB.out))))
                              have n6_ := Aside0.mk (blk_below (g := gb297) (o := .cells #[.slice A2_0 l2_0.length c2_0] 26 (0, 0)) (by (with_reducible repeat (first | refine blk_drewN ?_ _ | refine blk_drew ?_ | refine blk_alloc ?_ _)); exact BK297.out) hb)
                              have n7_ := Aside0.mk (blk_below (g := gb322) (o := .cells #[.slice Ao39 t345.length co39] 35 (0, 0)) (by (with_reducible repeat (first | refine blk_drewN ?_ _ | refine blk_drew ?_ | refine blk_alloc ?_ _)); exact BK322.out) hb)
                              have n8_ := Aside0.mk (below_step (by repeat (first | (with_reducible first | exact HB.out | apply below_alloc | apply pw_below_drewN | apply below_drew1 | refine below_set ?_ GE297.out | refine below_set ?_ GE322.out) | exact HB.out)) hb)
                              clear HO_8
                              clear HO_13
                              clear HO_323000
                              clear HO352
                              clear HO355
                              clear BK297
                              clear BK322
                              clear HB
                              have HO_8 := n0_
                              have HO_13 := n1_
                              have HO_323000 := n2_
                              have HO352 := n3_
                              have HO355 := n4_
                              have HO358 := n5_
                              have BK297 := n6_
                              have BK322 := n7_
                              have HB := n8_
                              clear n0_ n1_ n2_ n3_ n4_ n5_ n6_ n7_ n8_
                              (try clear hb)
                              (try clear hb2)
                              (try clear hk)
                              (try clear hi)
                              (try clear ho0)
                              obtain ⟨Ao104, co104, eo104⟩ := Kd.R_slice HO352.out
                              (first | subst eo104 | (injection eo104 with f1_ f2_ f3_; have f4_ := f1_.symm; have f5_ := f3_.symm; clear f1_ f2_ f3_; subst f4_; subst f5_))
                              obtain ⟨Ao105, co105, eo105⟩ := Kd.R_slice HO355.out
                              (first | subst eo105 | (injection eo105 with f1_ f2_ f3_; have f4_ := f1_.symm; have f5_ := f3_.symm; clear f1_ f2_ f3_; subst f4_; subst f5_))
                              obtain ⟨Ao106, co106, eo106⟩ := Kd.R_slice HO358.out
                              (first | subst eo106 | (injection eo106 with f1_ f2_ f3_; have f4_ := f1_.symm; have f5_ := f3_.symm; clear f1_ f2_ f3_; subst f4_; subst f5_))
                              refine hK.out _ _ ((blk_cell BK297.out 0).trans rfl) (fun hHeld => ?_)
                              clear hK K
                              refine norm_ (a' := ?_) ?_ ?_
                              rotate_left
                              · show Act.put _ (some 119) _ = _
                                simp only [Act.put, List.setIfInBounds_toArray, List.set_cons_zero, List.set_cons_succ, i64_w, i32_w]
                                rfl
                              refine one_ (i := 6) (N := some 120) #[true, true, true, true, true, true, true, false, false, false, false, false] rfl rfl (one_of HT_.out (by kernel_rfl)) (by decide) (fun K hK => ?_)
                              refine goes_ Try.func21 (by kernel_rfl) rfl #[.slice Ao104 t350.length co104, .slice Ao105 t353.length co105, .agg #[.slice Ao106 t356.length co106]] (by rfl) rfl rfl (by (try simp only [List.map_toArray, List.map_cons, List.map_nil]); first | done | rfl | (simp only [List.length_drop, List.length_take]; rfl)) ?_
                              with_reducible refine (impl_LiarsIn.calls kj63 _ _ t350 _ _ t353 _ _ t356 t359 t362 _ ?side1 ?side2 ?side3 ?side4 ?side5 ?side6 A96.out).mono ?_
                              (case side1 => repeat (first | exact (Kd.R_reads' HO352.out).2.2 | (with_reducible refine Kd.C_alloc ?_ _) | (with_reducible refine Kd.C_drewN ?_ _) | (with_reducible refine Kd.C_drew ?_)))
                              (case side2 => exact (Kd.R_reads' HO352.out).2.1)
                              (case side3 => repeat (first | exact (Kd.R_reads' HO355.out).2.2 | (with_reducible refine Kd.C_alloc ?_ _) | (with_reducible refine Kd.C_drewN ?_ _) | (with_reducible refine Kd.C_drew ?_)))
                              (case side4 => exact (Kd.R_reads' HO355.out).2.1)
                              (case side5 => repeat (first | exact (Kd.R_reads' HO358.out).2.2 | (with_reducible refine Kd.C_alloc ?_ _) | (with_reducible refine Kd.C_drewN ?_ _) | (with_reducible refine Kd.C_drew ?_)))
                              (case side6 => exact (Kd.R_reads' HO358.out).2.1)
                              rintro e w107 ⟨v360, rfl, ho0, hb⟩
                              refine ⟨_, rfl, ?_⟩
                              have n0_ := Aside0.mk (Kd.R_elder' (by (with_reducible repeat (first | apply Kd.R_alloc | apply Kd.R_drewN | apply Kd.R_drew)); exact HO_8.out) (Kd.R_base ho0) hb)
                              have n1_ := Aside0.mk (Kd.R_elder' (by (with_reducible repeat (first | apply Kd.R_alloc | apply Kd.R_drewN | apply Kd.R_drew)); exact HO_13.out) (Kd.R_base ho0) hb)
                              have n2_ := Aside0.mk (Kd.R_below (by (with_reducible repeat (first | apply Kd.R_alloc | apply Kd.R_drewN | apply Kd.R_drew)); exact HO_323000.out) hb)
                              have n3_ := Aside0.mk (Kd.R_below (by (with_reducible repeat (first | apply Kd.R_alloc | apply Kd.R_drewN | apply Kd.R_drew)); exact HO352.out) hb)
                              have n4_ := Aside0.mk (Kd.R_elder' (by (with_reducible repeat (first | apply Kd.R_alloc | apply Kd.R_drewN | apply Kd.R_drew)); exact HO355.out) (Kd.R_base ho0) hb)
                              have n5_ := Aside0.mk (Kd.R_below (by (with_reducible repeat (first | apply Kd.R_alloc | apply Kd.R_drewN | apply Kd.R_drew)); exact HO358.out) hb)
                              have n6_ := Aside0.mk (Kd.R_lower (Kd.R_new' (Kd.R_new' (Kd.R_new' ho0 (Kd.R_lt (by (with_reducible repeat (first | apply Kd.R_alloc | apply Kd.R_drewN | apply Kd.R_drew)); exact HO_8.out))) (Kd.R_lt (by (with_reducible repeat (first | apply Kd.R_alloc | apply Kd.R_drewN | apply Kd.R_drew)); exact HO_13.out))) (Kd.R_lt (by (with_reducible repeat (first | apply Kd.R_alloc | apply Kd.R_drewN | apply Kd.R_drew)); exact HO355.out))) (below_size (by repeat (first | (with_reducible first | exact HB.out | apply below_alloc | apply pw_below_drewN | apply below_drew1 | refine below_set ?_ GE297.out | refine below_set ?_ GE322.out) | exact HB.out))))
                              have n7_ := Aside0.mk (blk_below (g := gb297) (o := .cells #[.slice A2_0 l2_0.length c2_0] 26 (0, 0)) (by (with_reducible repeat (first | refine blk_drewN ?_ _ | refine blk_drew ?_ | refine blk_alloc ?_ _)); exact BK297.out) hb)
                              have n8_ := Aside0.mk (blk_below (g := gb322) (o := .cells #[.slice Ao39 t345.length co39] 35 (0, 0)) (by (with_reducible repeat (first | refine blk_drewN ?_ _ | refine blk_drew ?_ | refine blk_alloc ?_ _)); exact BK322.out) hb)
                              have n9_ := Aside0.mk (below_step (by repeat (first | (with_reducible first | exact HB.out | apply below_alloc | apply pw_below_drewN | apply below_drew1 | refine below_set ?_ GE297.out | refine below_set ?_ GE322.out) | exact HB.out)) hb)
                              clear HO_8
                              clear HO_13
                              clear HO_323000
                              clear HO352
                              clear HO355
                              clear HO358
                              clear BK297
                              clear BK322
                              clear HB
                              have HO_8 := n0_
                              have HO_13 := n1_
                              have HO_323000 := n2_
                              have HO352 := n3_
                              have HO355 := n4_
                              have HO358 := n5_
                              have HO361 := n6_
                              have BK297 := n7_
                              have BK322 := n8_
                              have HB := n9_
                              clear n0_ n1_ n2_ n3_ n4_ n5_ n6_ n7_ n8_ n9_
                              (try clear hb)
                              (try clear hb2)
                              (try clear hk)
                              (try clear hi)
                              (try clear ho0)
                              refine hK.out _ _ ((blk_cell BK297.out 0).trans rfl) (fun hHeld => ?_)
                              clear hK K
                              refine norm_ (a' := ?_) ?_ ?_
                              rotate_left
                              · show Act.put _ (some 120) _ = _
                                simp only [Act.put, List.setIfInBounds_toArray, List.set_cons_zero, List.set_cons_succ, i64_w, i32_w]
                                rfl
                              refine pure_ (i := 7) (N := some 113) (v := ?_) (a' := ?_) #[true, true, true, true, true, true, true, true, false, false, false, false] rfl rfl (any_of HT_.out (by kernel_rfl)) (fun _ _ _ h => h) (Or.inl ⟨by rfl, ?_⟩) ?_ ?_
                              rotate_left
                              · intro w'
                                go_simp
                                with_reducible rfl
                              rotate_left
                              · simp only [Act.put, List.setIfInBounds_toArray, List.set_cons_zero, List.set_cons_succ, i64_w, i32_w]
                                rfl
                              refine pure_ (i := 8) (N := some 121) (v := ?_) (a' := ?_) #[true, true, true, true, true, true, true, true, true, false, false, false] rfl rfl (any_of HT_.out (by kernel_rfl)) (fun _ _ _ h => h) (Or.inl ⟨by rfl, ?_⟩) ?_ ?_
                              rotate_left
                              · intro w'
                                go_simp
                                with_reducible rfl
                              rotate_left
                              · simp only [Act.put, List.setIfInBounds_toArray, List.set_cons_zero, List.set_cons_succ, i64_w, i32_w]
                                rfl
                              refine pure_ (i := 9) (N := some 122) (v := ?_) (a' := ?_) #[true, true, true, true, true, true, true, true, true, true, false, false] rfl rfl (any_of HT_.out (by kernel_rfl)) (fun _ _ _ h => h) (Or.inl ⟨by rfl, ?_⟩) ?_ ?_
                              rotate_left
                              · intro w'
                                go_simp
                                with_reducible rfl
                              rotate_left
                              · simp only [Act.put, List.setIfInBounds_toArray, List.set_cons_zero, List.set_cons_succ, i64_w, i32_w]
                                rfl
                              refine pure_ (i := 10) (N := some 18) (v := ?_) (a' := ?_) #[true, true, true, true, true, true, true, true, true, true, true, false] rfl rfl (any_of HT_.out (by kernel_rfl)) (fun _ _ _ h => h) (Or.inl ⟨by rfl, ?_⟩) ?_ ?_
                              rotate_left
                              · intro w'
                                go_simp
                                with_reducible rfl
                              rotate_left
                              · simp only [Act.put, List.setIfInBounds_toArray, List.set_cons_zero, List.set_cons_succ, i64_w, i32_w]
                                rfl
                              refine pure_ (i := 11) (N := some 19) (v := ?_) (a' := ?_) #[true, true, true, true, true, true, true, true, true, true, true, true] rfl rfl (any_of HT_.out (by kernel_rfl)) (fun _ _ _ h => h) (Or.inl ⟨by rfl, ?_⟩) ?_ ?_
                              rotate_left
                              · intro w'
                                go_simp
                                with_reducible rfl
                              rotate_left
                              · simp only [Act.put, List.setIfInBounds_toArray, List.set_cons_zero, List.set_cons_succ, i64_w, i32_w]
                                rfl
                              refine done_ (done_of HT_.out (by kernel_rfl)) ?_
                              go_upto_region 38 with (fail)
                              go_cut [131] (fun v131 wc => ∃ (kq : Nat) (x131_96 : Bool), v131 = .bool x131_96 ∧ Aside0 (laws_FnExactLiarsIn.j2 kq t348 t347 x131_96 = some r) ∧ Aside0 (kq ≤ kj63) ∧ Aside0 (Kd.R (Kd.int .i64) 3 wc w.heap.size (fun _ => True) (.slice Ao98 t323.length co98) t348) ∧ Aside0 (Kd.R k67 67 wc w.heap.size (fun _ => True) (.slice Ao39 t345.length co39) t345) ∧ Aside0 (wc.heap[gb297]? = some (.cells #[(.slice A2_0 l2_0.length c2_0)] 26 (0, 0))) ∧ Aside0 (wc.heap[gb322]? = some (.cells #[(.slice Ao39 t345.length co39)] 35 (0, 0))) ∧ Aside0 (Below w.heap.size w wc))
                              case first =>
                                have H := HC97.out
                                clear HC97
                                replace H := Option.bind_eq_some_iff.mp H
                                obtain ⟨t363, A1080, H⟩ := H
                                replace H : (if t363 = true then (laws_FnExactLiarsIn.j2 kj63 t348 t347 (t362 != t312)) else (laws_FnExactLiarsIn.j2 kj63 t348 t347 true)) = some r := H
                                have A108 := Aside0.mk A1080
                                clear A1080
                                by_cases c109 : t363 = true
                                · subst c109
                                  have H1 : (laws_FnExactLiarsIn.j2 kj63 t348 t347 (t362 != t312)) = some r := by rw [if_pos rfl] at H; exact H
                                  clear H
                                  have H := H1
                                  clear H1
                                  have H' := Aside0.mk H
                                  clear H
                                  obtain ⟨Ao110, co110, eo110⟩ := Kd.R_slice HO361.out
                                  subst eo110
                                  obtain ⟨Ao111, co111, eo111⟩ := Kd.R_slice HO_8.out
                                  subst eo111
                                  go_wp2_with (first | ((with_reducible refine gate_callee (f := 18) rfl ?_); refine goesL_ (some 125) rfl rfl Try.func18 (by kernel_rfl) rfl #[.slice Ao110 t359.length co110, .slice Ao111 t309.length co111] rfl (by (try simp only [List.map_toArray, List.map_cons, List.map_nil]); first | done | rfl | (simp only [List.length_drop, List.length_take]; rfl)) ?_; (with_reducible refine (laws_eqIntS.calls kj63 _ _ t359 _ _ t309 true _ ?side1 ?side2 ?side3 ?side4 A108.out).mono ?_); (case side1 => repeat (first | exact (Kd.R_reads' HO361.out).2.2 | (with_reducible refine Kd.C_alloc ?_ _) | (with_reducible refine Kd.C_drewN ?_ _) | (with_reducible refine Kd.C_drew ?_))); (case side2 => exact (Kd.R_reads' HO361.out).2.1); (case side3 => repeat (first | exact (Kd.R_reads' HO_8.out).2.2 | (with_reducible refine Kd.C_alloc ?_ _) | (with_reducible refine Kd.C_drewN ?_ _) | (with_reducible refine Kd.C_drew ?_))); (case side4 => exact (Kd.R_reads' HO_8.out).2.1); rintro e w' ⟨rfl, ⟨nd, rfl⟩⟩; refine ⟨_, rfl, ?_⟩))
                                  go_meet
                                  case rel => exact ⟨_, ((t362 != t312)), (by first | rfl | (simp; done) | (simp [*]; done)), H', ⟨by have := HJ21.out; have := HJ63.out; first | omega | exact Nat.le_refl _⟩, ⟨by (try simp only [hl323000_63]); (with_reducible repeat (first | apply Kd.R_alloc | apply Kd.R_drewN | apply Kd.R_drew)); exact Kd.R_mono HO_13.out (fun _ hk => trivial)⟩, ⟨by (try simp only [hl323000_63]); (with_reducible repeat (first | apply Kd.R_alloc | apply Kd.R_drewN | apply Kd.R_drew)); exact Kd.R_mono HO_323000.out (fun _ hk => trivial)⟩, ⟨by (try simp only [hl323000_63]); (with_reducible repeat (first | refine blk_drewN ?_ _ | refine blk_drew ?_ | refine blk_alloc ?_ _)); exact BK297.out⟩, ⟨by (try simp only [hl323000_63]); (with_reducible repeat (first | refine blk_drewN ?_ _ | refine blk_drew ?_ | refine blk_alloc ?_ _)); exact BK322.out⟩, ⟨by repeat (first | (with_reducible first | exact HB.out | apply below_alloc | apply pw_below_drewN | apply below_drew1 | refine below_set ?_ GE297.out | refine below_set ?_ GE322.out) | exact HB.out)⟩⟩
                                · replace c109 := Bool.eq_false_iff.mpr c109
                                  subst c109
                                  have H1 : (laws_FnExactLiarsIn.j2 kj63 t348 t347 true) = some r := by rw [if_neg (show ¬ (false = true) by decide)] at H; exact H
                                  clear H
                                  have H := H1
                                  clear H1
                                  have H' := Aside0.mk H
                                  clear H
                                  obtain ⟨Ao112, co112, eo112⟩ := Kd.R_slice HO361.out
                                  subst eo112
                                  obtain ⟨Ao113, co113, eo113⟩ := Kd.R_slice HO_8.out
                                  subst eo113
                                  go_wp2_with (first | ((with_reducible refine gate_callee (f := 18) rfl ?_); refine goesL_ (some 125) rfl rfl Try.func18 (by kernel_rfl) rfl #[.slice Ao112 t359.length co112, .slice Ao113 t309.length co113] rfl (by (try simp only [List.map_toArray, List.map_cons, List.map_nil]); first | done | rfl | (simp only [List.length_drop, List.length_take]; rfl)) ?_; (with_reducible refine (laws_eqIntS.calls kj63 _ _ t359 _ _ t309 false _ ?side1 ?side2 ?side3 ?side4 A108.out).mono ?_); (case side1 => repeat (first | exact (Kd.R_reads' HO361.out).2.2 | (with_reducible refine Kd.C_alloc ?_ _) | (with_reducible refine Kd.C_drewN ?_ _) | (with_reducible refine Kd.C_drew ?_))); (case side2 => exact (Kd.R_reads' HO361.out).2.1); (case side3 => repeat (first | exact (Kd.R_reads' HO_8.out).2.2 | (with_reducible refine Kd.C_alloc ?_ _) | (with_reducible refine Kd.C_drewN ?_ _) | (with_reducible refine Kd.C_drew ?_))); (case side4 => exact (Kd.R_reads' HO_8.out).2.1); rintro e w' ⟨rfl, ⟨nd, rfl⟩⟩; refine ⟨_, rfl, ?_⟩))
                                  go_meet
                                  case rel => exact ⟨_, (true), (by first | rfl | (simp; done) | (simp [*]; done)), H', ⟨by have := HJ21.out; have := HJ63.out; first | omega | exact Nat.le_refl _⟩, ⟨by (try simp only [hl323000_63]); (with_reducible repeat (first | apply Kd.R_alloc | apply Kd.R_drewN | apply Kd.R_drew)); exact Kd.R_mono HO_13.out (fun _ hk => trivial)⟩, ⟨by (try simp only [hl323000_63]); (with_reducible repeat (first | apply Kd.R_alloc | apply Kd.R_drewN | apply Kd.R_drew)); exact Kd.R_mono HO_323000.out (fun _ hk => trivial)⟩, ⟨by (try simp only [hl323000_63]); (with_reducible repeat (first | refine blk_drewN ?_ _ | refine blk_drew ?_ | refine blk_alloc ?_ _)); exact BK297.out⟩, ⟨by (try simp only [hl323000_63]); (with_reducible repeat (first | refine blk_drewN ?_ _ | refine blk_drew ?_ | refine blk_alloc ?_ _)); exact BK322.out⟩, ⟨by repeat (first | (with_reducible first | exact HB.out | apply below_alloc | apply pw_below_drewN | apply below_drew1 | refine below_set ?_ GE297.out | refine below_set ?_ GE322.out) | exact HB.out)⟩⟩
                              case rest =>
                                clear HC97
                                try clear c1
                                try clear c2
                                try clear p2
                                try clear c4
                                try clear c4b0
                                try clear c4b1
                                try clear c5
                                try clear c6
                                try clear c7
                                try clear c7b0
                                try clear c8
                                try clear c9
                                try clear c10
                                try clear c10b0
                                try clear c11
                                try clear c13
                                try clear c14
                                try clear c15
                                try clear c17
                                try clear c18
                                try clear c19
                                try clear c20
                                try clear c21
                                try clear c22
                                try clear c23
                                try clear c24
                                try clear c25
                                try clear c40
                                try clear c46
                                try clear c51
                                try clear c54
                                try clear c57
                                try clear c60
                                try clear c76
                                try clear c79
                                try clear c79b0
                                try clear c81
                                try clear c86
                                try clear c89
                                try clear c89b0
                                try clear c92
                                try clear c92b0
                                try clear c92b1
                                try clear c109
                                try clear hcz12_0
                                try clear hcz24_0
                                try clear hcz36_0
                                try clear hcz41_0
                                try clear hcz77_0
                                try clear hfz12_0
                                try clear hfz24_0
                                try clear hfz36_0
                                try clear hfz41_0
                                try clear hfz77_0
                                try clear p2
                                obtain ⟨kq, x131_96, rfl, HA, HJ96, HO_13, HO_323000, BK297, BK322, HB⟩ := hcut
                                have hl13_96 := (Kd.R_reads' HO_13.out).1
                                rw [hl13_96] at HO_13
                                (try simp only [hl13_96])
                                (try simp only [hl13_96] at BK297)
                                (try simp only [hl13_96] at BK322)
                                (try simp only [hl13_96] at HO_323000)
                                cases kq with
                                | zero => exact absurd HA.out (by simp [laws_FnExactLiarsIn.j2])
                                | succ kj96 =>
                                  have H := HA.out
                                  clear HA
                                  simp only [laws_FnExactLiarsIn.j2] at H
                                  by_cases c114 : x131_96 = true
                                  · subst c114
                                    have H1 : (some false) = some r := by rw [if_pos rfl] at H; exact H
                                    clear H
                                    have H := H1
                                    clear H1
                                    obtain rfl := Option.some.inj H
                                    go_wp2
                                    go_ret
                                    exact ⟨by first | rfl | (simp [errW_none, errW_some] <;> rfl) | (simp [*, errW_none, errW_some] <;> rfl), by repeat (first | (with_reducible first | exact HB.out | apply below_alloc | apply pw_below_drewN | apply below_drew1 | refine below_set ?_ GE297.out | refine below_set ?_ GE322.out) | exact HB.out)⟩
                                  · replace c114 := Bool.eq_false_iff.mpr c114
                                    subst c114
                                    have H1 : ((laws_heldIntS.f kj96 t348 1).bind fun t364 => (if t364 < 0 then (some false) else (if t364 = t347 then (some true) else (some false)))) = some r := by rw [if_neg (show ¬ (false = true) by decide)] at H; exact H
                                    clear H
                                    have H := H1
                                    clear H1
                                    replace H := Option.bind_eq_some_iff.mp H
                                    obtain ⟨t364, A1150, H⟩ := H
                                    replace H : (if t364 < 0 then (some false) else (if t364 = t347 then (some true) else (some false))) = some r := H
                                    have A115 := Aside0.mk A1150
                                    clear A1150
                                    by_cases c116 : t364 < 0
                                    · rw [if_pos c116] at H
                                      have c116b0 : decide (t364 < 0) = true := decide_eq_true c116
                                      clear c116
                                      obtain rfl := Option.some.inj H
                                      go_wp2_with (first | ((with_reducible refine gate_callee (f := 25) rfl ?_); refine goesL_ (some 134) rfl rfl Try.func25 (by kernel_rfl) rfl #[.slice Ao98 t348.length co98, .int .i64 1] rfl (by (try simp only [List.map_toArray, List.map_cons, List.map_nil]); first | done | rfl | (simp only [List.length_drop, List.length_take]; rfl)) ?_; (with_reducible refine (laws_heldIntS.calls kj96 _ _ t348 1 t364 _ ?side1 ?side2 A115.out).mono ?_); (case side1 => repeat (first | exact (Kd.R_reads' HO_13.out).2.2 | (with_reducible refine Kd.C_alloc ?_ _) | (with_reducible refine Kd.C_drewN ?_ _) | (with_reducible refine Kd.C_drew ?_))); (case side2 => exact (Kd.R_reads' HO_13.out).2.1); rintro e w' ⟨rfl, ⟨nd, rfl⟩⟩; refine ⟨_, rfl, ?_⟩))
                                      go_ret
                                      exact ⟨by first | rfl | (simp [errW_none, errW_some] <;> rfl) | (simp [*, errW_none, errW_some] <;> rfl), by repeat (first | (with_reducible first | exact HB.out | apply below_alloc | apply pw_below_drewN | apply below_drew1 | refine below_set ?_ GE297.out | refine below_set ?_ GE322.out) | exact HB.out)⟩
                                    · rw [if_neg c116] at H
                                      have c116b0 : decide (t364 < 0) = false := decide_eq_false c116
                                      clear c116
                                      by_cases c117 : t364 = t347
                                      · rw [if_pos c117] at H
                                        have c117b0 : (t364 == t347) = true := beq_iff_eq.mpr c117
                                        have c117b1 : (t364 != t347) = false := bne_eq_false_iff_eq.mpr c117
                                        clear c117
                                        obtain rfl := Option.some.inj H
                                        go_wp2_with (first | ((with_reducible refine gate_callee (f := 25) rfl ?_); refine goesL_ (some 134) rfl rfl Try.func25 (by kernel_rfl) rfl #[.slice Ao98 t348.length co98, .int .i64 1] rfl (by (try simp only [List.map_toArray, List.map_cons, List.map_nil]); first | done | rfl | (simp only [List.length_drop, List.length_take]; rfl)) ?_; (with_reducible refine (laws_heldIntS.calls kj96 _ _ t348 1 t364 _ ?side1 ?side2 A115.out).mono ?_); (case side1 => repeat (first | exact (Kd.R_reads' HO_13.out).2.2 | (with_reducible refine Kd.C_alloc ?_ _) | (with_reducible refine Kd.C_drewN ?_ _) | (with_reducible refine Kd.C_drew ?_))); (case side2 => exact (Kd.R_reads' HO_13.out).2.1); rintro e w' ⟨rfl, ⟨nd, rfl⟩⟩; refine ⟨_, rfl, ?_⟩))
                                        go_ret
                                        exact ⟨by first | rfl | (simp [errW_none, errW_some] <;> rfl) | (simp [*, errW_none, errW_some] <;> rfl), by repeat (first | (with_reducible first | exact HB.out | apply below_alloc | apply pw_below_drewN | apply below_drew1 | refine below_set ?_ GE297.out | refine below_set ?_ GE322.out) | exact HB.out)⟩
                                      · rw [if_neg c117] at H
                                        have c117b0 : (t364 == t347) = false := beq_eq_false_iff_ne.mpr c117
                                        have c117b1 : (t364 != t347) = true := bne_iff_ne.mpr c117
                                        obtain rfl := Option.some.inj H
                                        go_wp2_with (first | ((with_reducible refine gate_callee (f := 25) rfl ?_); refine goesL_ (some 134) rfl rfl Try.func25 (by kernel_rfl) rfl #[.slice Ao98 t348.length co98, .int .i64 1] rfl (by (try simp only [List.map_toArray, List.map_cons, List.map_nil]); first | done | rfl | (simp only [List.length_drop, List.length_take]; rfl)) ?_; (with_reducible refine (laws_heldIntS.calls kj96 _ _ t348 1 t364 _ ?side1 ?side2 A115.out).mono ?_); (case side1 => repeat (first | exact (Kd.R_reads' HO_13.out).2.2 | (with_reducible refine Kd.C_alloc ?_ _) | (with_reducible refine Kd.C_drewN ?_ _) | (with_reducible refine Kd.C_drew ?_))); (case side2 => exact (Kd.R_reads' HO_13.out).2.1); rintro e w' ⟨rfl, ⟨nd, rfl⟩⟩; refine ⟨_, rfl, ?_⟩))
                                        go_ret
                                        exact ⟨by first | rfl | (simp [errW_none, errW_some] <;> rfl) | (simp [*, errW_none, errW_some] <;> rfl), by repeat (first | (with_reducible first | exact HB.out | apply below_alloc | apply pw_below_drewN | apply below_drew1 | refine below_set ?_ GE297.out | refine below_set ?_ GE322.out) | exact HB.out)⟩
                            · rw [if_neg c92] at H
                              have c92b0 : (t349 == t347) = false := beq_eq_false_iff_ne.mpr c92
                              have c92b1 : (t349 != t347) = true := bne_iff_ne.mpr c92
                              obtain rfl := Option.some.inj H
                              obtain ⟨Ao118, co118, eo118⟩ := Kd.R_slice HO_13.out
                              subst eo118
                              go_wp2_with (first | ((with_reducible refine gate_callee (f := 23) rfl ?_); refine goesL_ (some 104) rfl rfl Try.func23 (by kernel_rfl) rfl #[.slice Ao118 t323.length co118, .int .i64 1] rfl (by (try simp only [List.map_toArray, List.map_cons, List.map_nil]); first | done | rfl | (simp only [List.length_drop, List.length_take]; rfl)) ?_; (with_reducible refine (laws_markIntS.calls kj63 (fun k_ => some k_ = (.slice Ao118 t323.length co118 : Value).ownBlock) (.slice Ao118 t323.length co118) t323 1 t347 t348 w _ ?side1 ?side2 A87.out).mono ?_); (case side1 => repeat (first | (with_reducible first | exact HB.out | apply below_alloc | apply pw_below_drewN | apply below_drew1 | refine below_set ?_ GE297.out | refine below_set ?_ GE322.out) | exact HB.out)); (case side2 => exact Kd.R_tight rfl HO_13.out); rintro e w119 ⟨rfl, hy0, hb, hkp⟩; refine ⟨_, rfl, ?_⟩; have n0_ := Aside0.mk (Kd.R_mono (ok' := fun k_ => some k_ ≠ (.slice Ao118 t323.length co118 : Value).ownBlock) (Kd.R_keptB (HO_8.out) hkp (by first | exact (fun k_ hk_ hs_ => (hk_) hs_) | (intro k_ hk_ hs_; have h2_ : some k_ = _ := hs_; revert hk_; simp [h2_]))) (by first | exact (fun k_ hk_ => hk_.1) | (intro k_ hk_; (intro e_; revert hk_; simp [e_])))); have n1_ := Aside0.mk (Kd.R_reok rfl hy0 (fun k_ e_ => HO_13.out.1 k_ e_)); have n2_ := Aside0.mk (Kd.R_mono (ok' := fun k_ => True) (Kd.R_keptB ((Kd.R_apart' HO_323000.out (Kd.R_typed HO_13.out) (by decide))) hkp (by first | exact (fun k_ hk_ hs_ => (hk_.2) hs_) | (intro k_ hk_ hs_; have h2_ : some k_ = _ := hs_; revert hk_; simp [h2_]))) (fun k_ hk_ => trivial)); have n3_ := Aside0.mk (blk_kept (by (with_reducible repeat (first | refine blk_drewN ?_ _ | refine blk_drew ?_ | refine blk_alloc ?_ _)); exact BK297.out) hkp (fun hs_ => (fun e_ => (Kd.R_ne HO_13.out BK297.out (by decide)) e_) hs_)); have n4_ := Aside0.mk (blk_kept (by (with_reducible repeat (first | refine blk_drewN ?_ _ | refine blk_drew ?_ | refine blk_alloc ?_ _)); exact BK322.out) hkp (fun hs_ => (fun e_ => (Kd.R_ne HO_13.out BK322.out (by decide)) e_) hs_)); have n5_ := Aside0.mk (hb); clear HO_8; clear HO_13; clear HO_323000; clear BK297; clear BK322; clear HB; have HO_8 := n0_; have HO_13 := n1_; have HO_323000 := n2_; have BK297 := n3_; have BK322 := n4_; have HB := n5_; clear n0_ n1_ n2_ n3_ n4_ n5_; (try clear hb); (try clear hkp); (try clear hy0)) | ((with_reducible refine gate_callee (f := 25) rfl ?_); refine goesL_ (some 107) rfl rfl Try.func25 (by kernel_rfl) rfl #[.slice Ao118 t348.length co118, .int .i64 1] rfl (by (try simp only [List.map_toArray, List.map_cons, List.map_nil]); first | done | (rw [show t348.length = t323.length from (Kd.R_reads' HO_13.out).1.symm] <;> rfl) | rfl | (simp only [List.length_drop, List.length_take]; rfl)) ?_; (with_reducible refine (laws_heldIntS.calls kj63 _ _ t348 1 t349 _ ?side1 ?side2 A88.out).mono ?_); (case side1 => repeat (first | exact (Kd.R_reads' HO_13.out).2.2 | (with_reducible refine Kd.C_alloc ?_ _) | (with_reducible refine Kd.C_drewN ?_ _) | (with_reducible refine Kd.C_drew ?_))); (case side2 => rw [show t348.length = t323.length from (Kd.R_reads' HO_13.out).1.symm]; exact (Kd.R_reads' HO_13.out).2.1); rintro e w' ⟨rfl, ⟨nd, rfl⟩⟩; refine ⟨_, rfl, ?_⟩))
                              go_ret
                              exact ⟨by first | rfl | (simp [errW_none, errW_some] <;> rfl) | (simp [*, errW_none, errW_some] <;> rfl), by repeat (first | (with_reducible first | exact HB.out | apply below_alloc | apply pw_below_drewN | apply below_drew1 | refine below_set ?_ GE297.out | refine below_set ?_ GE322.out) | exact HB.out)⟩
                  · replace c60 := Bool.eq_false_iff.mpr c60
                    subst c60
                    have H1 : (some false) = some r := by rw [if_neg (show ¬ (false = true) by decide)] at H; exact H
                    clear H
                    have H := H1
                    clear H1
                    obtain rfl := Option.some.inj H
                    try go_wp2_with (first | ((with_reducible refine gate_callee (f := 13) rfl ?_); refine goesL_ (some 67) rfl rfl Try.func13 (by kernel_rfl) rfl #[.slice A0 l0.length c0] rfl (by (try simp only [List.map_toArray, List.map_cons, List.map_nil]); first | done | rfl | (simp only [List.length_drop, List.length_take]; rfl)) ?_; (with_reducible refine (laws_toBlockS.calls kj21 _ _ l0 t328 _ ?side1 ?side2 A52.out).mono ?_); (case side1 => repeat (first | exact (Kd.C_below HR0.out HB.out) | (with_reducible refine Kd.C_alloc ?_ _) | (with_reducible refine Kd.C_drewN ?_ _) | (with_reducible refine Kd.C_drew ?_))); (case side2 => exact HC0.out); rintro e w120 ⟨v329, rfl, ho0, hb⟩; refine ⟨_, rfl, ?_⟩; have n0_ := Aside0.mk (Kd.R_below (by (with_reducible repeat (first | apply Kd.R_alloc | apply Kd.R_drewN | apply Kd.R_drew)); exact HO_8.out) hb); have n1_ := Aside0.mk (Kd.R_elder' (by (with_reducible repeat (first | apply Kd.R_alloc | apply Kd.R_drewN | apply Kd.R_drew)); exact HO_10.out) (Kd.R_base ho0) hb); have n2_ := Aside0.mk (Kd.R_below (by (with_reducible repeat (first | apply Kd.R_alloc | apply Kd.R_drewN | apply Kd.R_drew)); exact HO_11.out) hb); have n3_ := Aside0.mk (Kd.R_below (by (with_reducible repeat (first | apply Kd.R_alloc | apply Kd.R_drewN | apply Kd.R_drew)); exact HO_13.out) hb); have n4_ := Aside0.mk (Kd.R_below (by (with_reducible repeat (first | apply Kd.R_alloc | apply Kd.R_drewN | apply Kd.R_drew)); exact HO_323000.out) hb); have n5_ := Aside0.mk (Kd.R_lower (Kd.R_new' ho0 (Kd.R_lt (by (with_reducible repeat (first | apply Kd.R_alloc | apply Kd.R_drewN | apply Kd.R_drew)); exact HO_10.out))) (below_size (by repeat (first | (with_reducible first | exact HB.out | apply below_alloc | apply pw_below_drewN | apply below_drew1 | refine below_set ?_ GE297.out | refine below_set ?_ GE322.out) | exact HB.out)))); have n6_ := Aside0.mk (blk_below (g := gb297) (o := .cells #[.slice A2_0 l2_0.length c2_0] 26 (0, 0)) (by (with_reducible repeat (first | refine blk_drewN ?_ _ | refine blk_drew ?_ | refine blk_alloc ?_ _)); exact BK297.out) hb); have n7_ := Aside0.mk (blk_below (g := gb322) (o := .cells #[.slice Ao39 t319.length co39] 35 (0, 0)) (by (with_reducible repeat (first | refine blk_drewN ?_ _ | refine blk_drew ?_ | refine blk_alloc ?_ _)); exact BK322.out) hb); have n8_ := Aside0.mk (below_step (by repeat (first | (with_reducible first | exact HB.out | apply below_alloc | apply pw_below_drewN | apply below_drew1 | refine below_set ?_ GE297.out | refine below_set ?_ GE322.out) | exact HB.out)) hb); clear HO_8; clear HO_10; clear HO_11; clear HO_13; clear HO_323000; clear BK297; clear BK322; clear HB; have HO_8 := n0_; have HO_10 := n1_; have HO_11 := n2_; have HO_13 := n3_; have HO_323000 := n4_; have HO330 := n5_; have BK297 := n6_; have BK322 := n7_; have HB := n8_; clear n0_ n1_ n2_ n3_ n4_ n5_ n6_ n7_ n8_; (try clear hb); (try clear hb2); (try clear hk); (try clear hi); (try clear ho0); obtain ⟨Ao121, co121, eo121⟩ := Kd.R_slice HO330.out; subst eo121) | ((with_reducible refine gate_callee (f := 17) rfl ?_); refine goesL_ (some 68) rfl rfl Try.func17 (by kernel_rfl) rfl #[.slice Ao42 t313.length co42, .slice Ao121 t328.length co121] rfl (by (try simp only [List.map_toArray, List.map_cons, List.map_nil]); first | done | rfl | (simp only [List.length_drop, List.length_take]; rfl)) ?_; (with_reducible refine (laws_eqBlockS.calls kj21 _ _ t313 _ _ t328 true _ ?side1 ?side2 ?side3 ?side4 A53.out).mono ?_); (case side1 => repeat (first | exact (Kd.R_reads' HO_10.out).2.2 | (with_reducible refine Kd.C_alloc ?_ _) | (with_reducible refine Kd.C_drewN ?_ _) | (with_reducible refine Kd.C_drew ?_))); (case side2 => exact (Kd.R_reads' HO_10.out).2.1); (case side3 => repeat (first | exact (Kd.R_reads' HO330.out).2.2 | (with_reducible refine Kd.C_alloc ?_ _) | (with_reducible refine Kd.C_drewN ?_ _) | (with_reducible refine Kd.C_drew ?_))); (case side4 => exact (Kd.R_reads' HO330.out).2.1); rintro e w122 ⟨rfl, hb⟩; refine ⟨_, rfl, ?_⟩; have n0_ := Aside0.mk (Kd.R_below (by (with_reducible repeat (first | apply Kd.R_alloc | apply Kd.R_drewN | apply Kd.R_drew)); exact HO_8.out) hb); have n1_ := Aside0.mk (Kd.R_below (by (with_reducible repeat (first | apply Kd.R_alloc | apply Kd.R_drewN | apply Kd.R_drew)); exact HO_10.out) hb); have n2_ := Aside0.mk (Kd.R_below (by (with_reducible repeat (first | apply Kd.R_alloc | apply Kd.R_drewN | apply Kd.R_drew)); exact HO_11.out) hb); have n3_ := Aside0.mk (Kd.R_below (by (with_reducible repeat (first | apply Kd.R_alloc | apply Kd.R_drewN | apply Kd.R_drew)); exact HO_13.out) hb); have n4_ := Aside0.mk (Kd.R_below (by (with_reducible repeat (first | apply Kd.R_alloc | apply Kd.R_drewN | apply Kd.R_drew)); exact HO_323000.out) hb); have n5_ := Aside0.mk (Kd.R_below (by (with_reducible repeat (first | apply Kd.R_alloc | apply Kd.R_drewN | apply Kd.R_drew)); exact HO330.out) hb); have n6_ := Aside0.mk (blk_below (g := gb297) (o := .cells #[.slice A2_0 l2_0.length c2_0] 26 (0, 0)) (by (with_reducible repeat (first | refine blk_drewN ?_ _ | refine blk_drew ?_ | refine blk_alloc ?_ _)); exact BK297.out) hb); have n7_ := Aside0.mk (blk_below (g := gb322) (o := .cells #[.slice Ao39 t319.length co39] 35 (0, 0)) (by (with_reducible repeat (first | refine blk_drewN ?_ _ | refine blk_drew ?_ | refine blk_alloc ?_ _)); exact BK322.out) hb); have n8_ := Aside0.mk (below_step (by repeat (first | (with_reducible first | exact HB.out | apply below_alloc | apply pw_below_drewN | apply below_drew1 | refine below_set ?_ GE297.out | refine below_set ?_ GE322.out) | exact HB.out)) hb); clear HO_8; clear HO_10; clear HO_11; clear HO_13; clear HO_323000; clear HO330; clear BK297; clear BK322; clear HB; have HO_8 := n0_; have HO_10 := n1_; have HO_11 := n2_; have HO_13 := n3_; have HO_323000 := n4_; have HO330 := n5_; have BK297 := n6_; have BK322 := n7_; have HB := n8_; clear n0_ n1_ n2_ n3_ n4_ n5_ n6_ n7_ n8_; (try clear hb); (try clear hb2); (try clear hk); (try clear hi)) | ((with_reducible refine gate_callee (f := 14) rfl ?_); refine goesL_ (some 72) rfl rfl Try.func14 (by kernel_rfl) rfl #[.slice A1 l1.length c1] rfl (by (try simp only [List.map_toArray, List.map_cons, List.map_nil]); first | done | rfl | (simp only [List.length_drop, List.length_take]; rfl)) ?_; (with_reducible refine (laws_toIntS.calls kj21 _ _ l1 t332 _ ?side1 ?side2 A55.out).mono ?_); (case side1 => repeat (first | exact (Kd.C_below HR1.out HB.out) | (with_reducible refine Kd.C_alloc ?_ _) | (with_reducible refine Kd.C_drewN ?_ _) | (with_reducible refine Kd.C_drew ?_))); (case side2 => exact HC1.out); rintro e w123 ⟨v333, rfl, ho0, hb⟩; refine ⟨_, rfl, ?_⟩; have n0_ := Aside0.mk (Kd.R_elder' (by (with_reducible repeat (first | apply Kd.R_alloc | apply Kd.R_drewN | apply Kd.R_drew)); exact HO_8.out) (Kd.R_base ho0) hb); have n1_ := Aside0.mk (Kd.R_below (by (with_reducible repeat (first | apply Kd.R_alloc | apply Kd.R_drewN | apply Kd.R_drew)); exact HO_10.out) hb); have n2_ := Aside0.mk (Kd.R_elder' (by (with_reducible repeat (first | apply Kd.R_alloc | apply Kd.R_drewN | apply Kd.R_drew)); exact HO_11.out) (Kd.R_base ho0) hb); have n3_ := Aside0.mk (Kd.R_elder' (by (with_reducible repeat (first | apply Kd.R_alloc | apply Kd.R_drewN | apply Kd.R_drew)); exact HO_13.out) (Kd.R_base ho0) hb); have n4_ := Aside0.mk (Kd.R_below (by (with_reducible repeat (first | apply Kd.R_alloc | apply Kd.R_drewN | apply Kd.R_drew)); exact HO_323000.out) hb); have n5_ := Aside0.mk (Kd.R_below (by (with_reducible repeat (first | apply Kd.R_alloc | apply Kd.R_drewN | apply Kd.R_drew)); exact HO330.out) hb); have n6_ := Aside0.mk (Kd.R_lower (Kd.R_new' (Kd.R_new' (Kd.R_new' ho0 (Kd.R_lt (by (with_reducible repeat (first | apply Kd.R_alloc | apply Kd.R_drewN | apply Kd.R_drew)); exact HO_8.out))) (Kd.R_lt (by (with_reducible repeat (first | apply Kd.R_alloc | apply Kd.R_drewN | apply Kd.R_drew)); exact HO_11.out))) (Kd.R_lt (by (with_reducible repeat (first | apply Kd.R_alloc | apply Kd.R_drewN | apply Kd.R_drew)); exact HO_13.out))) (below_size (by repeat (first | (with_reducible first | exact HB.out | apply below_alloc | apply pw_below_drewN | apply below_drew1 | refine below_set ?_ GE297.out | refine below_set ?_ GE322.out) | exact HB.out)))); have n7_ := Aside0.mk (blk_below (g := gb297) (o := .cells #[.slice A2_0 l2_0.length c2_0] 26 (0, 0)) (by (with_reducible repeat (first | refine blk_drewN ?_ _ | refine blk_drew ?_ | refine blk_alloc ?_ _)); exact BK297.out) hb); have n8_ := Aside0.mk (blk_below (g := gb322) (o := .cells #[.slice Ao39 t319.length co39] 35 (0, 0)) (by (with_reducible repeat (first | refine blk_drewN ?_ _ | refine blk_drew ?_ | refine blk_alloc ?_ _)); exact BK322.out) hb); have n9_ := Aside0.mk (below_step (by repeat (first | (with_reducible first | exact HB.out | apply below_alloc | apply pw_below_drewN | apply below_drew1 | refine below_set ?_ GE297.out | refine below_set ?_ GE322.out) | exact HB.out)) hb); clear HO_8; clear HO_10; clear HO_11; clear HO_13; clear HO_323000; clear HO330; clear BK297; clear BK322; clear HB; have HO_8 := n0_; have HO_10 := n1_; have HO_11 := n2_; have HO_13 := n3_; have HO_323000 := n4_; have HO330 := n5_; have HO334 := n6_; have BK297 := n7_; have BK322 := n8_; have HB := n9_; clear n0_ n1_ n2_ n3_ n4_ n5_ n6_ n7_ n8_ n9_; (try clear hb); (try clear hb2); (try clear hk); (try clear hi); (try clear ho0); obtain ⟨Ao124, co124, eo124⟩ := Kd.R_slice HO334.out; subst eo124) | ((with_reducible refine gate_callee (f := 18) rfl ?_); refine goesL_ (some 73) rfl rfl Try.func18 (by kernel_rfl) rfl #[.slice Ao43 t316.length co43, .slice Ao124 t332.length co124] rfl (by (try simp only [List.map_toArray, List.map_cons, List.map_nil]); first | done | rfl | (simp only [List.length_drop, List.length_take]; rfl)) ?_; (with_reducible refine (laws_eqIntS.calls kj21 _ _ t316 _ _ t332 true _ ?side1 ?side2 ?side3 ?side4 A56.out).mono ?_); (case side1 => repeat (first | exact (Kd.R_reads' HO_11.out).2.2 | (with_reducible refine Kd.C_alloc ?_ _) | (with_reducible refine Kd.C_drewN ?_ _) | (with_reducible refine Kd.C_drew ?_))); (case side2 => exact (Kd.R_reads' HO_11.out).2.1); (case side3 => repeat (first | exact (Kd.R_reads' HO334.out).2.2 | (with_reducible refine Kd.C_alloc ?_ _) | (with_reducible refine Kd.C_drewN ?_ _) | (with_reducible refine Kd.C_drew ?_))); (case side4 => exact (Kd.R_reads' HO334.out).2.1); rintro e w' ⟨rfl, ⟨nd, rfl⟩⟩; refine ⟨_, rfl, ?_⟩))
                    (try (rw [drewN_self w123]; generalize hq_ : World.drewN w123 _ = w123; have n0_ : Aside0 (Kd.R k72 72 w123 w.heap.size (fun k_ => some k_ ≠ (.slice Ao42 t313.length co42 : Value).ownBlock) (.slice Ao121 t328.length co121) t328) := ⟨by rw [← hq_]; exact (by (with_reducible repeat (first | apply Kd.R_alloc | apply Kd.R_drewN | apply Kd.R_drew)); exact Kd.R_mono HO330.out (fun _ hk => hk.2))⟩; have n1_ : Aside0 (Kd.R (Kd.int .i64) 3 w123 w.heap.size (fun k_ => some k_ ≠ (.slice Ao43 t316.length co43 : Value).ownBlock ∧ some k_ ≠ (v324 : Value).ownBlock ∧ some k_ ≠ (v310 : Value).ownBlock) (.slice Ao124 t332.length co124) t332) := ⟨by rw [← hq_]; exact (by (with_reducible repeat (first | apply Kd.R_alloc | apply Kd.R_drewN | apply Kd.R_drew)); exact Kd.R_mono HO334.out (fun _ hk => ⟨hk.1.2, ⟨hk.2, hk.1.1.2⟩⟩))⟩; have n2_ : Aside0 (Kd.R k72 72 w123 w.heap.size (fun k_ => some k_ ≠ (.slice Ao121 t328.length co121 : Value).ownBlock) (.slice Ao42 t313.length co42) t313) := ⟨by rw [← hq_]; exact (by (with_reducible repeat (first | apply Kd.R_alloc | apply Kd.R_drewN | apply Kd.R_drew)); exact Kd.R_mono HO_10.out (fun _ hk => hk.2))⟩; have n3_ : Aside0 (Kd.R (Kd.int .i64) 3 w123 w.heap.size (fun k_ => some k_ ≠ (.slice Ao124 t332.length co124 : Value).ownBlock ∧ some k_ ≠ (v324 : Value).ownBlock ∧ some k_ ≠ (v310 : Value).ownBlock) (.slice Ao43 t316.length co43) t316) := ⟨by rw [← hq_]; exact (by (with_reducible repeat (first | apply Kd.R_alloc | apply Kd.R_drewN | apply Kd.R_drew)); exact Kd.R_mono HO_11.out (fun _ hk => ⟨hk.2, ⟨hk.1.2, hk.1.1⟩⟩))⟩; have n4_ : Aside0 (Kd.R (Kd.int .i64) 3 w123 w.heap.size (fun k_ => some k_ ≠ (.slice Ao124 t332.length co124 : Value).ownBlock ∧ some k_ ≠ (.slice Ao43 t316.length co43 : Value).ownBlock ∧ some k_ ≠ (v310 : Value).ownBlock) v324 t323) := ⟨by rw [← hq_]; exact (by (with_reducible repeat (first | apply Kd.R_alloc | apply Kd.R_drewN | apply Kd.R_drew)); exact Kd.R_mono HO_13.out (fun _ hk => ⟨hk.2, ⟨hk.1.2, hk.1.1⟩⟩))⟩; have n5_ : Aside0 (Kd.R k67 67 w123 w.heap.size (fun _ => True) (.slice Ao39 t319.length co39) t319) := ⟨by rw [← hq_]; exact (by (with_reducible repeat (first | apply Kd.R_alloc | apply Kd.R_drewN | apply Kd.R_drew)); exact HO_323000.out)⟩; have n6_ : Aside0 (Kd.R (Kd.int .i64) 3 w123 w.heap.size (fun k_ => some k_ ≠ (.slice Ao124 t332.length co124 : Value).ownBlock ∧ some k_ ≠ (.slice Ao43 t316.length co43 : Value).ownBlock ∧ some k_ ≠ (v324 : Value).ownBlock) v310 t309) := ⟨by rw [← hq_]; exact (by (with_reducible repeat (first | apply Kd.R_alloc | apply Kd.R_drewN | apply Kd.R_drew)); exact Kd.R_mono HO_8.out (fun _ hk => ⟨hk.2, ⟨hk.1.1, hk.1.2⟩⟩))⟩; have n7_ : Aside0 (w123.heap[gb297]? = some (.cells #[.slice A2_0 l2_0.length c2_0] 26 (0, 0))) := ⟨by rw [← hq_]; exact (by (with_reducible repeat (first | refine blk_drewN ?_ _ | refine blk_drew ?_ | refine blk_alloc ?_ _)); exact BK297.out)⟩; have n8_ : Aside0 (w123.heap[gb322]? = some (.cells #[.slice Ao39 t319.length co39] 35 (0, 0))) := ⟨by rw [← hq_]; exact (by (with_reducible repeat (first | refine blk_drewN ?_ _ | refine blk_drew ?_ | refine blk_alloc ?_ _)); exact BK322.out)⟩; have n9_ : Aside0 (Below w.heap.size w w123) := ⟨by rw [← hq_]; exact (by repeat (first | (with_reducible first | exact HB.out | apply below_alloc | apply pw_below_drewN | apply below_drew1 | refine below_set ?_ GE297.out | refine below_set ?_ GE322.out) | exact HB.out))⟩; clear HO330 HO334 HO_10 HO_11 HO_13 HO_323000 HO_8 BK297 BK322 HB hq_; have HO330 := n0_; have HO334 := n1_; have HO_10 := n2_; have HO_11 := n3_; have HO_13 := n4_; have HO_323000 := n5_; have HO_8 := n6_; have BK297 := n7_; have BK322 := n8_; have HB := n9_; clear n0_ n1_ n2_ n3_ n4_ n5_ n6_ n7_ n8_ n9_))
                    have n0_ := Aside0.mk (Kd.R_drew HO_8.out)
                    have n1_ := Aside0.mk (Kd.R_drew HO_10.out)
                    have n2_ := Aside0.mk (Kd.R_drew HO_11.out)
                    have n3_ := Aside0.mk (Kd.R_drew HO_13.out)
                    have n4_ := Aside0.mk (Kd.R_drew HO_323000.out)
                    have n5_ := Aside0.mk (Kd.R_drew HO330.out)
                    have n6_ := Aside0.mk (Kd.R_drew HO334.out)
                    have n7_ := Aside0.mk (blk_drew BK297.out)
                    have n8_ := Aside0.mk (blk_drew BK322.out)
                    have n9_ := Aside0.mk (below_drew1 HB.out)
                    clear HO_8
                    clear HO_10
                    clear HO_11
                    clear HO_13
                    clear HO_323000
                    clear HO330
                    clear HO334
                    clear BK297
                    clear BK322
                    clear HB
                    have HO_8 := n0_
                    have HO_10 := n1_
                    have HO_11 := n2_
                    have HO_13 := n3_
                    have HO_323000 := n4_
                    have HO330 := n5_
                    have HO334 := n6_
                    have BK297 := n7_
                    have BK322 := n8_
                    have HB := n9_
                    clear n0_ n1_ n2_ n3_ n4_ n5_ n6_ n7_ n8_ n9_
                    refine start_ (n := 5) (S := fun w' => w'.cell? ⟨gb322, 0, none⟩ = some (.slice Ao39 t319.length co39) ∧ w'.cell? ⟨gb297, 0, none⟩ = some (.slice A2_0 l2_0.length c2_0)) (ds := []) #[false, false, false, false, false] (by kernel_rfl) rfl rfl ⟨(blk_cell BK322.out 0).trans rfl, (blk_cell BK297.out 0).trans rfl⟩ (fun hHeld => ?_)
                    generalize w123.drew = w125 at HO_8 HO_10 HO_11 HO_13 HO_323000 HO330 HO334 BK297 BK322 HB hHeld ⊢
                    refine take_ (i := 0) (N := some 75) (v := ?_) (a' := ?_) #[true, false, false, false, false] rfl rfl (by kernel_rfl) (fun _ _ _ h => h) (Or.inl ⟨by rfl, ?_⟩) hHeld ?_ ?_
                    rotate_left
                    · rintro w' ⟨s0, s1⟩
                      go_simp
                      with_reducible rfl
                    rotate_left
                    · simp only [Act.put, List.setIfInBounds_toArray, List.set_cons_zero, List.set_cons_succ, i64_w, i32_w]
                      rfl
                    refine take_ (i := 1) (N := some 76) (v := ?_) (a' := ?_) #[true, true, false, false, false] rfl rfl (by kernel_rfl) (fun _ _ _ h => h) (Or.inl ⟨by rfl, ?_⟩) hHeld ?_ ?_
                    rotate_left
                    · rintro w' ⟨s0, s1⟩
                      go_simp
                      with_reducible rfl
                    rotate_left
                    · simp only [Act.put, List.setIfInBounds_toArray, List.set_cons_zero, List.set_cons_succ, i64_w, i32_w]
                      rfl
                    refine one_ (i := 2) (N := some 77) #[true, true, true, false, false] rfl rfl (by kernel_rfl) (by decide) (fun K hK => ?_)
                    refine goes_ Try.func15 (by kernel_rfl) rfl #[.agg #[.slice A2_0 l2_0.length c2_0]] (by rfl) rfl rfl (by (try simp only [List.map_toArray, List.map_cons, List.map_nil]); first | done | rfl | (simp only [List.length_drop, List.length_take]; rfl)) ?_
                    with_reducible refine (laws_toPool.calls kj21 _ _ l2_0 t336 _ ?side1 ?side2 A58.out).mono ?_
                    (case side1 => repeat (first | exact (Kd.C_below HR2_0.out HB.out) | (with_reducible refine Kd.C_alloc ?_ _) | (with_reducible refine Kd.C_drewN ?_ _) | (with_reducible refine Kd.C_drew ?_)))
                    (case side2 => exact HC2_0.out)
                    rintro e w126 ⟨v337, rfl, ho0, hb⟩
                    refine ⟨_, rfl, ?_⟩
                    have n0_ := Aside0.mk (Kd.R_below (by (with_reducible repeat (first | apply Kd.R_alloc | apply Kd.R_drewN | apply Kd.R_drew)); exact HO_8.out) hb)
                    have n1_ := Aside0.mk (Kd.R_below (by (with_reducible repeat (first | apply Kd.R_alloc | apply Kd.R_drewN | apply Kd.R_drew)); exact HO_10.out) hb)
                    have n2_ := Aside0.mk (Kd.R_below (by (with_reducible repeat (first | apply Kd.R_alloc | apply Kd.R_drewN | apply Kd.R_drew)); exact HO_11.out) hb)
                    have n3_ := Aside0.mk (Kd.R_below (by (with_reducible repeat (first | apply Kd.R_alloc | apply Kd.R_drewN | apply Kd.R_drew)); exact HO_13.out) hb)
                    have n4_ := Aside0.mk (Kd.R_elder' (by (with_reducible repeat (first | apply Kd.R_alloc | apply Kd.R_drewN | apply Kd.R_drew)); exact HO_323000.out) (Kd.R_base ho0) hb)
                    have n5_ := Aside0.mk (Kd.R_below (by (with_reducible repeat (first | apply Kd.R_alloc | apply Kd.R_drewN | apply Kd.R_drew)); exact HO330.out) hb)
                    have n6_ := Aside0.mk (Kd.R_below (by (with_reducible repeat (first | apply Kd.R_alloc | apply Kd.R_drewN | apply Kd.R_drew)); exact HO334.out) hb)
                    have n7_ := Aside0.mk (Kd.R_lower (Kd.R_new' ho0 (Kd.R_lt (by (with_reducible repeat (first | apply Kd.R_alloc | apply Kd.R_drewN | apply Kd.R_drew)); exact HO_323000.out))) (below_size (by repeat (first | (with_reducible first | exact HB.out | apply below_alloc | apply pw_below_drewN | apply below_drew1 | refine below_set ?_ GE297.out | refine below_set ?_ GE322.out) | exact HB.out))))
                    have n8_ := Aside0.mk (blk_below (g := gb297) (o := .cells #[.slice A2_0 l2_0.length c2_0] 26 (0, 0)) (by (with_reducible repeat (first | refine blk_drewN ?_ _ | refine blk_drew ?_ | refine blk_alloc ?_ _)); exact BK297.out) hb)
                    have n9_ := Aside0.mk (blk_below (g := gb322) (o := .cells #[.slice Ao39 t319.length co39] 35 (0, 0)) (by (with_reducible repeat (first | refine blk_drewN ?_ _ | refine blk_drew ?_ | refine blk_alloc ?_ _)); exact BK322.out) hb)
                    have n10_ := Aside0.mk (below_step (by repeat (first | (with_reducible first | exact HB.out | apply below_alloc | apply pw_below_drewN | apply below_drew1 | refine below_set ?_ GE297.out | refine below_set ?_ GE322.out) | exact HB.out)) hb)
                    clear HO_8
                    clear HO_10
                    clear HO_11
                    clear HO_13
                    clear HO_323000
                    clear HO330
                    clear HO334
                    clear BK297
                    clear BK322
                    clear HB
                    have HO_8 := n0_
                    have HO_10 := n1_
                    have HO_11 := n2_
                    have HO_13 := n3_
                    have HO_323000 := n4_
                    have HO330 := n5_
                    have HO334 := n6_
                    have HO338 := n7_
                    have BK297 := n8_
                    have BK322 := n9_
                    have HB := n10_
                    clear n0_ n1_ n2_ n3_ n4_ n5_ n6_ n7_ n8_ n9_ n10_
                    (try clear hb)
                    (try clear hb2)
                    (try clear hk)
                    (try clear hi)
                    (try clear ho0)
                    obtain ⟨Ao127, co127, eo127⟩ := Kd.R_slice HO338.out
                    (first | subst eo127 | (injection eo127 with f1_ f2_ f3_; have f4_ := f1_.symm; have f5_ := f3_.symm; clear f1_ f2_ f3_; subst f4_; subst f5_))
                    refine hK.out _ _ ⟨(blk_cell BK322.out 0).trans rfl, (blk_cell BK297.out 0).trans rfl⟩ (fun hHeld => ?_)
                    clear hK K
                    refine norm_ (a' := ?_) ?_ ?_
                    rotate_left
                    · show Act.put _ (some 77) _ = _
                      simp only [Act.put, List.setIfInBounds_toArray, List.set_cons_zero, List.set_cons_succ, i64_w, i32_w]
                      rfl
                    refine one_ (i := 3) (N := some 78) #[true, true, true, true, false] rfl rfl (by kernel_rfl) (by decide) (fun K hK => ?_)
                    refine goes_ Try.func19 (by kernel_rfl) rfl #[.agg #[.slice Ao39 t319.length co39], .agg #[.slice Ao127 t336.length co127]] (by rfl) rfl rfl (by (try simp only [List.map_toArray, List.map_cons, List.map_nil]); first | done | rfl | (simp only [List.length_drop, List.length_take]; rfl)) ?_
                    with_reducible refine (laws_eqPool.calls kj21 _ _ t319 _ _ t336 false _ ?side1 ?side2 ?side3 ?side4 A59.out).mono ?_
                    (case side1 => repeat (first | exact (Kd.R_reads' HO_323000.out).2.2 | (with_reducible refine Kd.C_alloc ?_ _) | (with_reducible refine Kd.C_drewN ?_ _) | (with_reducible refine Kd.C_drew ?_)))
                    (case side2 => exact (Kd.R_reads' HO_323000.out).2.1)
                    (case side3 => repeat (first | exact (Kd.R_reads' HO338.out).2.2 | (with_reducible refine Kd.C_alloc ?_ _) | (with_reducible refine Kd.C_drewN ?_ _) | (with_reducible refine Kd.C_drew ?_)))
                    (case side4 => exact (Kd.R_reads' HO338.out).2.1)
                    rintro e w128 ⟨rfl, hb⟩
                    refine ⟨_, rfl, ?_⟩
                    have n0_ := Aside0.mk (Kd.R_below (by (with_reducible repeat (first | apply Kd.R_alloc | apply Kd.R_drewN | apply Kd.R_drew)); exact HO_8.out) hb)
                    have n1_ := Aside0.mk (Kd.R_below (by (with_reducible repeat (first | apply Kd.R_alloc | apply Kd.R_drewN | apply Kd.R_drew)); exact HO_10.out) hb)
                    have n2_ := Aside0.mk (Kd.R_below (by (with_reducible repeat (first | apply Kd.R_alloc | apply Kd.R_drewN | apply Kd.R_drew)); exact HO_11.out) hb)
                    have n3_ := Aside0.mk (Kd.R_below (by (with_reducible repeat (first | apply Kd.R_alloc | apply Kd.R_drewN | apply Kd.R_drew)); exact HO_13.out) hb)
                    have n4_ := Aside0.mk (Kd.R_below (by (with_reducible repeat (first | apply Kd.R_alloc | apply Kd.R_drewN | apply Kd.R_drew)); exact HO_323000.out) hb)
                    have n5_ := Aside0.mk (Kd.R_below (by (with_reducible repeat (first | apply Kd.R_alloc | apply Kd.R_drewN | apply Kd.R_drew)); exact HO330.out) hb)
                    have n6_ := Aside0.mk (Kd.R_below (by (with_reducible repeat (first | apply Kd.R_alloc | apply Kd.R_drewN | apply Kd.R_drew)); exact HO334.out) hb)
                    have n7_ := Aside0.mk (Kd.R_below (by (with_reducible repeat (first | apply Kd.R_alloc | apply Kd.R_drewN | apply Kd.R_drew)); exact HO338.out) hb)
                    have n8_ := Aside0.mk (blk_below (g := gb297) (o := .cells #[.slice A2_0 l2_0.length c2_0] 26 (0, 0)) (by (with_reducible repeat (first | refine blk_drewN ?_ _ | refine blk_drew ?_ | refine blk_alloc ?_ _)); exact BK297.out) hb)
                    have n9_ := Aside0.mk (blk_below (g := gb322) (o := .cells #[.slice Ao39 t319.length co39] 35 (0, 0)) (by (with_reducible repeat (first | refine blk_drewN ?_ _ | refine blk_drew ?_ | refine blk_alloc ?_ _)); exact BK322.out) hb)
                    have n10_ := Aside0.mk (below_step (by repeat (first | (with_reducible first | exact HB.out | apply below_alloc | apply pw_below_drewN | apply below_drew1 | refine below_set ?_ GE297.out | refine below_set ?_ GE322.out) | exact HB.out)) hb)
                    clear HO_8
                    clear HO_10
                    clear HO_11
                    clear HO_13
                    clear HO_323000
                    clear HO330
                    clear HO334
                    clear HO338
                    clear BK297
                    clear BK322
                    clear HB
                    have HO_8 := n0_
                    have HO_10 := n1_
                    have HO_11 := n2_
                    have HO_13 := n3_
                    have HO_323000 := n4_
                    have HO330 := n5_
                    have HO334 := n6_
                    have HO338 := n7_
                    have BK297 := n8_
                    have BK322 := n9_
                    have HB := n10_
                    clear n0_ n1_ n2_ n3_ n4_ n5_ n6_ n7_ n8_ n9_ n10_
                    (try clear hb)
                    (try clear hb2)
                    (try clear hk)
                    (try clear hi)
                    refine hK.out _ _ ⟨(blk_cell BK322.out 0).trans rfl, (blk_cell BK297.out 0).trans rfl⟩ (fun hHeld => ?_)
                    clear hK K
                    refine norm_ (a' := ?_) ?_ ?_
                    rotate_left
                    · show Act.put _ (some 78) _ = _
                      simp only [Act.put, List.setIfInBounds_toArray, List.set_cons_zero, List.set_cons_succ, i64_w, i32_w]
                      rfl
                    refine pure_ (i := 4) (N := some 79) (v := ?_) (a' := ?_) #[true, true, true, true, true] rfl rfl (by kernel_rfl) (fun _ _ _ h => h) (Or.inl ⟨by rfl, ?_⟩) ?_ ?_
                    rotate_left
                    · intro w'
                      go_simp
                      with_reducible rfl
                    rotate_left
                    · simp only [Act.put, List.setIfInBounds_toArray, List.set_cons_zero, List.set_cons_succ, i64_w, i32_w]
                      rfl
                    refine done_ (by kernel_rfl) ?_
                    try go_wp2
                    go_ret
                    exact ⟨by first | rfl | (simp [errW_none, errW_some] <;> rfl) | (simp [*, errW_none, errW_some] <;> rfl), by repeat (first | (with_reducible first | exact HB.out | apply below_alloc | apply pw_below_drewN | apply below_drew1 | refine below_set ?_ GE297.out | refine below_set ?_ GE322.out) | exact HB.out)⟩
                · replace c57 := Bool.eq_false_iff.mpr c57
                  subst c57
                  have H1 : (some false) = some r := by rw [if_neg (show ¬ (false = true) by decide)] at H; exact H
                  clear H
                  have H := H1
                  clear H1
                  obtain rfl := Option.some.inj H
                  go_wp2_with (first | ((with_reducible refine gate_callee (f := 13) rfl ?_); refine goesL_ (some 67) rfl rfl Try.func13 (by kernel_rfl) rfl #[.slice A0 l0.length c0] rfl (by (try simp only [List.map_toArray, List.map_cons, List.map_nil]); first | done | rfl | (simp only [List.length_drop, List.length_take]; rfl)) ?_; (with_reducible refine (laws_toBlockS.calls kj21 _ _ l0 t328 _ ?side1 ?side2 A52.out).mono ?_); (case side1 => repeat (first | exact (Kd.C_below HR0.out HB.out) | (with_reducible refine Kd.C_alloc ?_ _) | (with_reducible refine Kd.C_drewN ?_ _) | (with_reducible refine Kd.C_drew ?_))); (case side2 => exact HC0.out); rintro e w129 ⟨v329, rfl, ho0, hb⟩; refine ⟨_, rfl, ?_⟩; have n0_ := Aside0.mk (Kd.R_below (by (with_reducible repeat (first | apply Kd.R_alloc | apply Kd.R_drewN | apply Kd.R_drew)); exact HO_8.out) hb); have n1_ := Aside0.mk (Kd.R_elder' (by (with_reducible repeat (first | apply Kd.R_alloc | apply Kd.R_drewN | apply Kd.R_drew)); exact HO_10.out) (Kd.R_base ho0) hb); have n2_ := Aside0.mk (Kd.R_below (by (with_reducible repeat (first | apply Kd.R_alloc | apply Kd.R_drewN | apply Kd.R_drew)); exact HO_11.out) hb); have n3_ := Aside0.mk (Kd.R_below (by (with_reducible repeat (first | apply Kd.R_alloc | apply Kd.R_drewN | apply Kd.R_drew)); exact HO_13.out) hb); have n4_ := Aside0.mk (Kd.R_below (by (with_reducible repeat (first | apply Kd.R_alloc | apply Kd.R_drewN | apply Kd.R_drew)); exact HO_323000.out) hb); have n5_ := Aside0.mk (Kd.R_lower (Kd.R_new' ho0 (Kd.R_lt (by (with_reducible repeat (first | apply Kd.R_alloc | apply Kd.R_drewN | apply Kd.R_drew)); exact HO_10.out))) (below_size (by repeat (first | (with_reducible first | exact HB.out | apply below_alloc | apply pw_below_drewN | apply below_drew1 | refine below_set ?_ GE297.out | refine below_set ?_ GE322.out) | exact HB.out)))); have n6_ := Aside0.mk (blk_below (g := gb297) (o := .cells #[.slice A2_0 l2_0.length c2_0] 26 (0, 0)) (by (with_reducible repeat (first | refine blk_drewN ?_ _ | refine blk_drew ?_ | refine blk_alloc ?_ _)); exact BK297.out) hb); have n7_ := Aside0.mk (blk_below (g := gb322) (o := .cells #[.slice Ao39 t319.length co39] 35 (0, 0)) (by (with_reducible repeat (first | refine blk_drewN ?_ _ | refine blk_drew ?_ | refine blk_alloc ?_ _)); exact BK322.out) hb); have n8_ := Aside0.mk (below_step (by repeat (first | (with_reducible first | exact HB.out | apply below_alloc | apply pw_below_drewN | apply below_drew1 | refine below_set ?_ GE297.out | refine below_set ?_ GE322.out) | exact HB.out)) hb); clear HO_8; clear HO_10; clear HO_11; clear HO_13; clear HO_323000; clear BK297; clear BK322; clear HB; have HO_8 := n0_; have HO_10 := n1_; have HO_11 := n2_; have HO_13 := n3_; have HO_323000 := n4_; have HO330 := n5_; have BK297 := n6_; have BK322 := n7_; have HB := n8_; clear n0_ n1_ n2_ n3_ n4_ n5_ n6_ n7_ n8_; (try clear hb); (try clear hb2); (try clear hk); (try clear hi); (try clear ho0); obtain ⟨Ao130, co130, eo130⟩ := Kd.R_slice HO330.out; subst eo130) | ((with_reducible refine gate_callee (f := 17) rfl ?_); refine goesL_ (some 68) rfl rfl Try.func17 (by kernel_rfl) rfl #[.slice Ao42 t313.length co42, .slice Ao130 t328.length co130] rfl (by (try simp only [List.map_toArray, List.map_cons, List.map_nil]); first | done | rfl | (simp only [List.length_drop, List.length_take]; rfl)) ?_; (with_reducible refine (laws_eqBlockS.calls kj21 _ _ t313 _ _ t328 true _ ?side1 ?side2 ?side3 ?side4 A53.out).mono ?_); (case side1 => repeat (first | exact (Kd.R_reads' HO_10.out).2.2 | (with_reducible refine Kd.C_alloc ?_ _) | (with_reducible refine Kd.C_drewN ?_ _) | (with_reducible refine Kd.C_drew ?_))); (case side2 => exact (Kd.R_reads' HO_10.out).2.1); (case side3 => repeat (first | exact (Kd.R_reads' HO330.out).2.2 | (with_reducible refine Kd.C_alloc ?_ _) | (with_reducible refine Kd.C_drewN ?_ _) | (with_reducible refine Kd.C_drew ?_))); (case side4 => exact (Kd.R_reads' HO330.out).2.1); rintro e w131 ⟨rfl, hb⟩; refine ⟨_, rfl, ?_⟩; have n0_ := Aside0.mk (Kd.R_below (by (with_reducible repeat (first | apply Kd.R_alloc | apply Kd.R_drewN | apply Kd.R_drew)); exact HO_8.out) hb); have n1_ := Aside0.mk (Kd.R_below (by (with_reducible repeat (first | apply Kd.R_alloc | apply Kd.R_drewN | apply Kd.R_drew)); exact HO_10.out) hb); have n2_ := Aside0.mk (Kd.R_below (by (with_reducible repeat (first | apply Kd.R_alloc | apply Kd.R_drewN | apply Kd.R_drew)); exact HO_11.out) hb); have n3_ := Aside0.mk (Kd.R_below (by (with_reducible repeat (first | apply Kd.R_alloc | apply Kd.R_drewN | apply Kd.R_drew)); exact HO_13.out) hb); have n4_ := Aside0.mk (Kd.R_below (by (with_reducible repeat (first | apply Kd.R_alloc | apply Kd.R_drewN | apply Kd.R_drew)); exact HO_323000.out) hb); have n5_ := Aside0.mk (Kd.R_below (by (with_reducible repeat (first | apply Kd.R_alloc | apply Kd.R_drewN | apply Kd.R_drew)); exact HO330.out) hb); have n6_ := Aside0.mk (blk_below (g := gb297) (o := .cells #[.slice A2_0 l2_0.length c2_0] 26 (0, 0)) (by (with_reducible repeat (first | refine blk_drewN ?_ _ | refine blk_drew ?_ | refine blk_alloc ?_ _)); exact BK297.out) hb); have n7_ := Aside0.mk (blk_below (g := gb322) (o := .cells #[.slice Ao39 t319.length co39] 35 (0, 0)) (by (with_reducible repeat (first | refine blk_drewN ?_ _ | refine blk_drew ?_ | refine blk_alloc ?_ _)); exact BK322.out) hb); have n8_ := Aside0.mk (below_step (by repeat (first | (with_reducible first | exact HB.out | apply below_alloc | apply pw_below_drewN | apply below_drew1 | refine below_set ?_ GE297.out | refine below_set ?_ GE322.out) | exact HB.out)) hb); clear HO_8; clear HO_10; clear HO_11; clear HO_13; clear HO_323000; clear HO330; clear BK297; clear BK322; clear HB; have HO_8 := n0_; have HO_10 := n1_; have HO_11 := n2_; have HO_13 := n3_; have HO_323000 := n4_; have HO330 := n5_; have BK297 := n6_; have BK322 := n7_; have HB := n8_; clear n0_ n1_ n2_ n3_ n4_ n5_ n6_ n7_ n8_; (try clear hb); (try clear hb2); (try clear hk); (try clear hi)) | ((with_reducible refine gate_callee (f := 14) rfl ?_); refine goesL_ (some 72) rfl rfl Try.func14 (by kernel_rfl) rfl #[.slice A1 l1.length c1] rfl (by (try simp only [List.map_toArray, List.map_cons, List.map_nil]); first | done | rfl | (simp only [List.length_drop, List.length_take]; rfl)) ?_; (with_reducible refine (laws_toIntS.calls kj21 _ _ l1 t332 _ ?side1 ?side2 A55.out).mono ?_); (case side1 => repeat (first | exact (Kd.C_below HR1.out HB.out) | (with_reducible refine Kd.C_alloc ?_ _) | (with_reducible refine Kd.C_drewN ?_ _) | (with_reducible refine Kd.C_drew ?_))); (case side2 => exact HC1.out); rintro e w132 ⟨v333, rfl, ho0, hb⟩; refine ⟨_, rfl, ?_⟩; have n0_ := Aside0.mk (Kd.R_elder' (by (with_reducible repeat (first | apply Kd.R_alloc | apply Kd.R_drewN | apply Kd.R_drew)); exact HO_8.out) (Kd.R_base ho0) hb); have n1_ := Aside0.mk (Kd.R_below (by (with_reducible repeat (first | apply Kd.R_alloc | apply Kd.R_drewN | apply Kd.R_drew)); exact HO_10.out) hb); have n2_ := Aside0.mk (Kd.R_elder' (by (with_reducible repeat (first | apply Kd.R_alloc | apply Kd.R_drewN | apply Kd.R_drew)); exact HO_11.out) (Kd.R_base ho0) hb); have n3_ := Aside0.mk (Kd.R_elder' (by (with_reducible repeat (first | apply Kd.R_alloc | apply Kd.R_drewN | apply Kd.R_drew)); exact HO_13.out) (Kd.R_base ho0) hb); have n4_ := Aside0.mk (Kd.R_below (by (with_reducible repeat (first | apply Kd.R_alloc | apply Kd.R_drewN | apply Kd.R_drew)); exact HO_323000.out) hb); have n5_ := Aside0.mk (Kd.R_below (by (with_reducible repeat (first | apply Kd.R_alloc | apply Kd.R_drewN | apply Kd.R_drew)); exact HO330.out) hb); have n6_ := Aside0.mk (Kd.R_lower (Kd.R_new' (Kd.R_new' (Kd.R_new' ho0 (Kd.R_lt (by (with_reducible repeat (first | apply Kd.R_alloc | apply Kd.R_drewN | apply Kd.R_drew)); exact HO_8.out))) (Kd.R_lt (by (with_reducible repeat (first | apply Kd.R_alloc | apply Kd.R_drewN | apply Kd.R_drew)); exact HO_11.out))) (Kd.R_lt (by (with_reducible repeat (first | apply Kd.R_alloc | apply Kd.R_drewN | apply Kd.R_drew)); exact HO_13.out))) (below_size (by repeat (first | (with_reducible first | exact HB.out | apply below_alloc | apply pw_below_drewN | apply below_drew1 | refine below_set ?_ GE297.out | refine below_set ?_ GE322.out) | exact HB.out)))); have n7_ := Aside0.mk (blk_below (g := gb297) (o := .cells #[.slice A2_0 l2_0.length c2_0] 26 (0, 0)) (by (with_reducible repeat (first | refine blk_drewN ?_ _ | refine blk_drew ?_ | refine blk_alloc ?_ _)); exact BK297.out) hb); have n8_ := Aside0.mk (blk_below (g := gb322) (o := .cells #[.slice Ao39 t319.length co39] 35 (0, 0)) (by (with_reducible repeat (first | refine blk_drewN ?_ _ | refine blk_drew ?_ | refine blk_alloc ?_ _)); exact BK322.out) hb); have n9_ := Aside0.mk (below_step (by repeat (first | (with_reducible first | exact HB.out | apply below_alloc | apply pw_below_drewN | apply below_drew1 | refine below_set ?_ GE297.out | refine below_set ?_ GE322.out) | exact HB.out)) hb); clear HO_8; clear HO_10; clear HO_11; clear HO_13; clear HO_323000; clear HO330; clear BK297; clear BK322; clear HB; have HO_8 := n0_; have HO_10 := n1_; have HO_11 := n2_; have HO_13 := n3_; have HO_323000 := n4_; have HO330 := n5_; have HO334 := n6_; have BK297 := n7_; have BK322 := n8_; have HB := n9_; clear n0_ n1_ n2_ n3_ n4_ n5_ n6_ n7_ n8_ n9_; (try clear hb); (try clear hb2); (try clear hk); (try clear hi); (try clear ho0); obtain ⟨Ao133, co133, eo133⟩ := Kd.R_slice HO334.out; subst eo133) | ((with_reducible refine gate_callee (f := 18) rfl ?_); refine goesL_ (some 73) rfl rfl Try.func18 (by kernel_rfl) rfl #[.slice Ao43 t316.length co43, .slice Ao133 t332.length co133] rfl (by (try simp only [List.map_toArray, List.map_cons, List.map_nil]); first | done | rfl | (simp only [List.length_drop, List.length_take]; rfl)) ?_; (with_reducible refine (laws_eqIntS.calls kj21 _ _ t316 _ _ t332 false _ ?side1 ?side2 ?side3 ?side4 A56.out).mono ?_); (case side1 => repeat (first | exact (Kd.R_reads' HO_11.out).2.2 | (with_reducible refine Kd.C_alloc ?_ _) | (with_reducible refine Kd.C_drewN ?_ _) | (with_reducible refine Kd.C_drew ?_))); (case side2 => exact (Kd.R_reads' HO_11.out).2.1); (case side3 => repeat (first | exact (Kd.R_reads' HO334.out).2.2 | (with_reducible refine Kd.C_alloc ?_ _) | (with_reducible refine Kd.C_drewN ?_ _) | (with_reducible refine Kd.C_drew ?_))); (case side4 => exact (Kd.R_reads' HO334.out).2.1); rintro e w' ⟨rfl, ⟨nd, rfl⟩⟩; refine ⟨_, rfl, ?_⟩))
                  go_ret
                  exact ⟨by first | rfl | (simp [errW_none, errW_some] <;> rfl) | (simp [*, errW_none, errW_some] <;> rfl), by repeat (first | (with_reducible first | exact HB.out | apply below_alloc | apply pw_below_drewN | apply below_drew1 | refine below_set ?_ GE297.out | refine below_set ?_ GE322.out) | exact HB.out)⟩
              · replace c54 := Bool.eq_false_iff.mpr c54
                subst c54
                have H1 : (some false) = some r := by rw [if_neg (show ¬ (false = true) by decide)] at H; exact H
                clear H
                have H := H1
                clear H1
                obtain rfl := Option.some.inj H
                go_wp2_with (first | ((with_reducible refine gate_callee (f := 13) rfl ?_); refine goesL_ (some 67) rfl rfl Try.func13 (by kernel_rfl) rfl #[.slice A0 l0.length c0] rfl (by (try simp only [List.map_toArray, List.map_cons, List.map_nil]); first | done | rfl | (simp only [List.length_drop, List.length_take]; rfl)) ?_; (with_reducible refine (laws_toBlockS.calls kj21 _ _ l0 t328 _ ?side1 ?side2 A52.out).mono ?_); (case side1 => repeat (first | exact (Kd.C_below HR0.out HB.out) | (with_reducible refine Kd.C_alloc ?_ _) | (with_reducible refine Kd.C_drewN ?_ _) | (with_reducible refine Kd.C_drew ?_))); (case side2 => exact HC0.out); rintro e w134 ⟨v329, rfl, ho0, hb⟩; refine ⟨_, rfl, ?_⟩; have n0_ := Aside0.mk (Kd.R_below (by (with_reducible repeat (first | apply Kd.R_alloc | apply Kd.R_drewN | apply Kd.R_drew)); exact HO_8.out) hb); have n1_ := Aside0.mk (Kd.R_elder' (by (with_reducible repeat (first | apply Kd.R_alloc | apply Kd.R_drewN | apply Kd.R_drew)); exact HO_10.out) (Kd.R_base ho0) hb); have n2_ := Aside0.mk (Kd.R_below (by (with_reducible repeat (first | apply Kd.R_alloc | apply Kd.R_drewN | apply Kd.R_drew)); exact HO_11.out) hb); have n3_ := Aside0.mk (Kd.R_below (by (with_reducible repeat (first | apply Kd.R_alloc | apply Kd.R_drewN | apply Kd.R_drew)); exact HO_13.out) hb); have n4_ := Aside0.mk (Kd.R_below (by (with_reducible repeat (first | apply Kd.R_alloc | apply Kd.R_drewN | apply Kd.R_drew)); exact HO_323000.out) hb); have n5_ := Aside0.mk (Kd.R_lower (Kd.R_new' ho0 (Kd.R_lt (by (with_reducible repeat (first | apply Kd.R_alloc | apply Kd.R_drewN | apply Kd.R_drew)); exact HO_10.out))) (below_size (by repeat (first | (with_reducible first | exact HB.out | apply below_alloc | apply pw_below_drewN | apply below_drew1 | refine below_set ?_ GE297.out | refine below_set ?_ GE322.out) | exact HB.out)))); have n6_ := Aside0.mk (blk_below (g := gb297) (o := .cells #[.slice A2_0 l2_0.length c2_0] 26 (0, 0)) (by (with_reducible repeat (first | refine blk_drewN ?_ _ | refine blk_drew ?_ | refine blk_alloc ?_ _)); exact BK297.out) hb); have n7_ := Aside0.mk (blk_below (g := gb322) (o := .cells #[.slice Ao39 t319.length co39] 35 (0, 0)) (by (with_reducible repeat (first | refine blk_drewN ?_ _ | refine blk_drew ?_ | refine blk_alloc ?_ _)); exact BK322.out) hb); have n8_ := Aside0.mk (below_step (by repeat (first | (with_reducible first | exact HB.out | apply below_alloc | apply pw_below_drewN | apply below_drew1 | refine below_set ?_ GE297.out | refine below_set ?_ GE322.out) | exact HB.out)) hb); clear HO_8; clear HO_10; clear HO_11; clear HO_13; clear HO_323000; clear BK297; clear BK322; clear HB; have HO_8 := n0_; have HO_10 := n1_; have HO_11 := n2_; have HO_13 := n3_; have HO_323000 := n4_; have HO330 := n5_; have BK297 := n6_; have BK322 := n7_; have HB := n8_; clear n0_ n1_ n2_ n3_ n4_ n5_ n6_ n7_ n8_; (try clear hb); (try clear hb2); (try clear hk); (try clear hi); (try clear ho0); obtain ⟨Ao135, co135, eo135⟩ := Kd.R_slice HO330.out; subst eo135) | ((with_reducible refine gate_callee (f := 17) rfl ?_); refine goesL_ (some 68) rfl rfl Try.func17 (by kernel_rfl) rfl #[.slice Ao42 t313.length co42, .slice Ao135 t328.length co135] rfl (by (try simp only [List.map_toArray, List.map_cons, List.map_nil]); first | done | rfl | (simp only [List.length_drop, List.length_take]; rfl)) ?_; (with_reducible refine (laws_eqBlockS.calls kj21 _ _ t313 _ _ t328 false _ ?side1 ?side2 ?side3 ?side4 A53.out).mono ?_); (case side1 => repeat (first | exact (Kd.R_reads' HO_10.out).2.2 | (with_reducible refine Kd.C_alloc ?_ _) | (with_reducible refine Kd.C_drewN ?_ _) | (with_reducible refine Kd.C_drew ?_))); (case side2 => exact (Kd.R_reads' HO_10.out).2.1); (case side3 => repeat (first | exact (Kd.R_reads' HO330.out).2.2 | (with_reducible refine Kd.C_alloc ?_ _) | (with_reducible refine Kd.C_drewN ?_ _) | (with_reducible refine Kd.C_drew ?_))); (case side4 => exact (Kd.R_reads' HO330.out).2.1); rintro e w136 ⟨rfl, hb⟩; refine ⟨_, rfl, ?_⟩; have n0_ := Aside0.mk (Kd.R_below (by (with_reducible repeat (first | apply Kd.R_alloc | apply Kd.R_drewN | apply Kd.R_drew)); exact HO_8.out) hb); have n1_ := Aside0.mk (Kd.R_below (by (with_reducible repeat (first | apply Kd.R_alloc | apply Kd.R_drewN | apply Kd.R_drew)); exact HO_10.out) hb); have n2_ := Aside0.mk (Kd.R_below (by (with_reducible repeat (first | apply Kd.R_alloc | apply Kd.R_drewN | apply Kd.R_drew)); exact HO_11.out) hb); have n3_ := Aside0.mk (Kd.R_below (by (with_reducible repeat (first | apply Kd.R_alloc | apply Kd.R_drewN | apply Kd.R_drew)); exact HO_13.out) hb); have n4_ := Aside0.mk (Kd.R_below (by (with_reducible repeat (first | apply Kd.R_alloc | apply Kd.R_drewN | apply Kd.R_drew)); exact HO_323000.out) hb); have n5_ := Aside0.mk (Kd.R_below (by (with_reducible repeat (first | apply Kd.R_alloc | apply Kd.R_drewN | apply Kd.R_drew)); exact HO330.out) hb); have n6_ := Aside0.mk (blk_below (g := gb297) (o := .cells #[.slice A2_0 l2_0.length c2_0] 26 (0, 0)) (by (with_reducible repeat (first | refine blk_drewN ?_ _ | refine blk_drew ?_ | refine blk_alloc ?_ _)); exact BK297.out) hb); have n7_ := Aside0.mk (blk_below (g := gb322) (o := .cells #[.slice Ao39 t319.length co39] 35 (0, 0)) (by (with_reducible repeat (first | refine blk_drewN ?_ _ | refine blk_drew ?_ | refine blk_alloc ?_ _)); exact BK322.out) hb); have n8_ := Aside0.mk (below_step (by repeat (first | (with_reducible first | exact HB.out | apply below_alloc | apply pw_below_drewN | apply below_drew1 | refine below_set ?_ GE297.out | refine below_set ?_ GE322.out) | exact HB.out)) hb); clear HO_8; clear HO_10; clear HO_11; clear HO_13; clear HO_323000; clear HO330; clear BK297; clear BK322; clear HB; have HO_8 := n0_; have HO_10 := n1_; have HO_11 := n2_; have HO_13 := n3_; have HO_323000 := n4_; have HO330 := n5_; have BK297 := n6_; have BK322 := n7_; have HB := n8_; clear n0_ n1_ n2_ n3_ n4_ n5_ n6_ n7_ n8_; (try clear hb); (try clear hb2); (try clear hk); (try clear hi)))
                go_ret
                exact ⟨by first | rfl | (simp [errW_none, errW_some] <;> rfl) | (simp [*, errW_none, errW_some] <;> rfl), by repeat (first | (with_reducible first | exact HB.out | apply below_alloc | apply pw_below_drewN | apply below_drew1 | refine below_set ?_ GE297.out | refine below_set ?_ GE322.out) | exact HB.out)⟩

end Go.Proofs.Ytbkdgobgjebjkaa.PFnExactLiarsIn
