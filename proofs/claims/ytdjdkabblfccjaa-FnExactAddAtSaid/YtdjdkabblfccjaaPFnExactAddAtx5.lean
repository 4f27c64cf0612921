-- Written for this claim by a program of this session, out of Lean's own print of the program. Nothing in it is trusted: Lean checks it.
import Derived.Test.YtdjdkabblfccjaaPFnExactAddAtx0
import Derived.Test.YtdjdkabblfccjaaPFnExactAddAtx1
import Derived.Test.YtdjdkabblfccjaaPFnExactAddAtx2
import Derived.Test.YtdjdkabblfccjaaPFnExactAddAtx4
namespace Go.Proofs.Ytdjdkabblfccjaa.PFnExactAddAt
open Go.RowKit Go.Proofs.YtdjdkabblfccjaaW.PrintWords Go.Proofs.YtdjdkabblfccjaaW.PrintLast Go.Proofs.YtdjdkabblfccjaaW.PrintMore
attribute [local go_sem] max2_int min2_int max_two min_two max_three min_three max_four min_four   -- for this text's walks alone
set_option linter.unusedVariables false
set_option linter.unusedSimpArgs false

/-! ### laws_FnExactAddAt: function 8 -/
mutual
def laws_FnExactAddAt.j0 : Nat → Int → Int → Bool → Bool → Bool → List Int → List Int → List Int → List Int → Option (Bool)
  | 0, _, _, _, _, _, _, _, _, _ => none
  | k + 1, x1, x2, x9, x12, x48, x207000, x216000, x220000, x225000 => if x48 = true then (some false) else ((laws_toSums.f k x207000).bind fun t226 => ((laws_eqSums.f k x220000 t226).bind fun t229 => (if t229 = true then ((laws_markSums.f k x220000 1).bind fun bt230 => (if bt230.1 < 0 then (laws_FnExactAddAt.j1 k x1 x2 x9 true x207000 x216000 x225000) else ((laws_eqSums.f k x225000 x216000).bind fun t232 => (if t232 = true then (laws_FnExactAddAt.j1 k x1 x2 x9 (x12 != x9) x207000 x216000 x225000) else (laws_FnExactAddAt.j1 k x1 x2 x9 true x207000 x216000 x225000))))) else (some false))))
def laws_FnExactAddAt.j1 : Nat → Int → Int → Bool → Bool → List Int → List Int → List Int → Option (Bool)
  | 0, _, _, _, _, _, _, _ => none
  | k + 1, x1, x2, x9, x69, x207000, x216000, x225000 => if x69 = true then (some false) else ((laws_markSums.f k x225000 1).bind fun bt233 => ((laws_heldSums.f k bt233.2 1).bind fun t235 => (if t235 < 0 then (some false) else (if t235 = bt233.1 then ((laws_toSums.f k x207000).bind fun t236 => ((impl_AddAt.f k t236 x1 x2).bind fun bt239 => ((laws_eqSums.f k bt239.1 x216000).bind fun t244 => (if t244 = true then (laws_FnExactAddAt.j2 k bt233.1 (bt239.2 != x9) bt233.2) else (laws_FnExactAddAt.j2 k bt233.1 true bt233.2))))) else (some false)))))
def laws_FnExactAddAt.j2 : Nat → Int → Bool → List Int → Option (Bool)
  | 0, _, _, _ => none
  | k + 1, x14, x97, x225000 => if x97 = true then (some false) else ((laws_heldSums.f k x225000 1).bind fun t245 => (if t245 < 0 then (some false) else (if t245 = x14 then (some true) else (some false))))
end
def laws_FnExactAddAt.f (k : Nat) (l0_0 : List Int) (a1 : Int) (a2 : Int) : Option (Bool) := (laws_szSums.f l0_0 1048576).bind fun t207 => (if t207 < 0 then (some true) else ((laws_toSums.f k l0_0).bind fun t208 => ((spec_AddAt.f k t208 a1 a2).bind fun bt211 => ((laws_toSums.f k l0_0).bind fun t216 => ((impl_AddAt.f k t216 a1 a2).bind fun bt220 => ((laws_eqSums.f k bt220.1 bt211.1).bind fun t225 => (if t225 = true then (laws_FnExactAddAt.j0 k a1 a2 bt211.2 bt220.2 (bt220.2 != bt211.2) l0_0 bt211.1 t216 bt220.1) else (laws_FnExactAddAt.j0 k a1 a2 bt211.2 bt220.2 true l0_0 bt211.1 t216 bt220.1))))))))
theorem laws_FnExactAddAt.mono_l : ∀ k, (∀ y0 y1 y2 y3 y4 y5 y6 y7 y8, LeO (laws_FnExactAddAt.j0 k y0 y1 y2 y3 y4 y5 y6 y7 y8) (laws_FnExactAddAt.j0 (k + 1) y0 y1 y2 y3 y4 y5 y6 y7 y8)) ∧ (∀ y0 y1 y2 y3 y4 y5 y6, LeO (laws_FnExactAddAt.j1 k y0 y1 y2 y3 y4 y5 y6) (laws_FnExactAddAt.j1 (k + 1) y0 y1 y2 y3 y4 y5 y6)) ∧ (∀ y0 y1 y2, LeO (laws_FnExactAddAt.j2 k y0 y1 y2) (laws_FnExactAddAt.j2 (k + 1) y0 y1 y2))
  | 0 => ⟨fun _ _ _ _ _ _ _ _ _ r h => by simp [laws_FnExactAddAt.j0] at h, fun _ _ _ _ _ _ _ r h => by simp [laws_FnExactAddAt.j1] at h, fun _ _ _ r h => by simp [laws_FnExactAddAt.j2] at h⟩
  | k + 1 => by
    obtain ⟨ih0, ih1, ih2⟩ := laws_FnExactAddAt.mono_l k
    refine ⟨?_, ?_, ?_⟩
    · intro y0 y1 y2 y3 y4 y5 y6 y7 y8
      unfold laws_FnExactAddAt.j0
      repeat' first
      | (with_reducible exact ih0 _ _ _ _ _ _ _ _ _)
      | (with_reducible exact ih1 _ _ _ _ _ _ _)
      | (with_reducible exact ih2 _ _ _)
      | (with_reducible exact impl_AddAt.mono _ _ _ _)
      | (with_reducible exact laws_eqSums.mono _ _ _)
      | (with_reducible exact laws_heldSums.mono _ _ _)
      | (with_reducible exact laws_markSums.mono _ _ _)
      | (with_reducible exact laws_toSums.mono _ _)
      | (with_reducible exact spec_AddAt.mono _ _ _ _)
      | (with_reducible exact LeO.refl _)
      | (with_reducible exact LeO.none _)
      | (with_reducible refine LeO.ite ?_ ?_)
      | (with_reducible refine LeO.bind ?_ (fun _ => ?_))
      | exact ih0 _ _ _ _ _ _ _ _ _
      | exact ih1 _ _ _ _ _ _ _
      | exact ih2 _ _ _
      | exact impl_AddAt.mono _ _ _ _
      | exact laws_eqSums.mono _ _ _
      | exact laws_heldSums.mono _ _ _
      | exact laws_markSums.mono _ _ _
      | exact laws_toSums.mono _ _
      | exact spec_AddAt.mono _ _ _ _
      | exact LeO.none _
      | refine LeO.ite ?_ ?_
      | refine LeO.bind ?_ (fun _ => ?_)
    · intro y0 y1 y2 y3 y4 y5 y6
      unfold laws_FnExactAddAt.j1
      repeat' first
      | (with_reducible exact ih0 _ _ _ _ _ _ _ _ _)
      | (with_reducible exact ih1 _ _ _ _ _ _ _)
      | (with_reducible exact ih2 _ _ _)
      | (with_reducible exact impl_AddAt.mono _ _ _ _)
      | (with_reducible exact laws_eqSums.mono _ _ _)
      | (with_reducible exact laws_heldSums.mono _ _ _)
      | (with_reducible exact laws_markSums.mono _ _ _)
      | (with_reducible exact laws_toSums.mono _ _)
      | (with_reducible exact spec_AddAt.mono _ _ _ _)
      | (with_reducible exact LeO.refl _)
      | (with_reducible exact LeO.none _)
      | (with_reducible refine LeO.ite ?_ ?_)
      | (with_reducible refine LeO.bind ?_ (fun _ => ?_))
      | exact ih0 _ _ _ _ _ _ _ _ _
      | exact ih1 _ _ _ _ _ _ _
      | exact ih2 _ _ _
      | exact impl_AddAt.mono _ _ _ _
      | exact laws_eqSums.mono _ _ _
      | exact laws_heldSums.mono _ _ _
      | exact laws_markSums.mono _ _ _
      | exact laws_toSums.mono _ _
      | exact spec_AddAt.mono _ _ _ _
      | exact LeO.none _
      | refine LeO.ite ?_ ?_
      | refine LeO.bind ?_ (fun _ => ?_)
    · intro y0 y1 y2
      unfold laws_FnExactAddAt.j2
      repeat' first
      | (with_reducible exact ih0 _ _ _ _ _ _ _ _ _)
      | (with_reducible exact ih1 _ _ _ _ _ _ _)
      | (with_reducible exact ih2 _ _ _)
      | (with_reducible exact impl_AddAt.mono _ _ _ _)
      | (with_reducible exact laws_eqSums.mono _ _ _)
      | (with_reducible exact laws_heldSums.mono _ _ _)
      | (with_reducible exact laws_markSums.mono _ _ _)
      | (with_reducible exact laws_toSums.mono _ _)
      | (with_reducible exact spec_AddAt.mono _ _ _ _)
      | (with_reducible exact LeO.refl _)
      | (with_reducible exact LeO.none _)
      | (with_reducible refine LeO.ite ?_ ?_)
      | (with_reducible refine LeO.bind ?_ (fun _ => ?_))
      | exact ih0 _ _ _ _ _ _ _ _ _
      | exact ih1 _ _ _ _ _ _ _
      | exact ih2 _ _ _
      | exact impl_AddAt.mono _ _ _ _
      | exact laws_eqSums.mono _ _ _
      | exact laws_heldSums.mono _ _ _
      | exact laws_markSums.mono _ _ _
      | exact laws_toSums.mono _ _
      | exact spec_AddAt.mono _ _ _ _
      | exact LeO.none _
      | refine LeO.ite ?_ ?_
      | refine LeO.bind ?_ (fun _ => ?_)
theorem laws_FnExactAddAt.mono : ∀ a0 a1 a2 k, LeO (laws_FnExactAddAt.f k a0 a1 a2) (laws_FnExactAddAt.f (k + 1) a0 a1 a2) := by
  intro a0 a1 a2 k
  obtain ⟨ih0, ih1, ih2⟩ := laws_FnExactAddAt.mono_l k
  unfold laws_FnExactAddAt.f
  repeat' first
      | (with_reducible exact ih0 _ _ _ _ _ _ _ _ _)
      | (with_reducible exact ih1 _ _ _ _ _ _ _)
      | (with_reducible exact ih2 _ _ _)
      | (with_reducible exact impl_AddAt.mono _ _ _ _)
      | (with_reducible exact laws_eqSums.mono _ _ _)
      | (with_reducible exact laws_heldSums.mono _ _ _)
      | (with_reducible exact laws_markSums.mono _ _ _)
      | (with_reducible exact laws_toSums.mono _ _)
      | (with_reducible exact spec_AddAt.mono _ _ _ _)
      | (with_reducible exact LeO.refl _)
      | (with_reducible exact LeO.none _)
      | (with_reducible refine LeO.ite ?_ ?_)
      | (with_reducible refine LeO.bind ?_ (fun _ => ?_))
      | exact ih0 _ _ _ _ _ _ _ _ _
      | exact ih1 _ _ _ _ _ _ _
      | exact ih2 _ _ _
      | exact impl_AddAt.mono _ _ _ _
      | exact laws_eqSums.mono _ _ _
      | exact laws_heldSums.mono _ _ _
      | exact laws_markSums.mono _ _ _
      | exact laws_toSums.mono _ _
      | exact spec_AddAt.mono _ _ _ _
      | exact LeO.none _
      | refine LeO.ite ?_ ?_
      | refine LeO.bind ?_ (fun _ => ?_)
set_option maxHeartbeats 8000000 in
set_option maxRecDepth 100000 in
theorem laws_FnExactAddAt.calls (k : Nat) (A0_0 : Option Addr) (c0_0 : Nat) (l0_0 : List Int) (a1 : Int) (a2 : Int) (r : Bool) (w : World) (hr0_0 : Kd.C (Kd.int .i64) w A0_0 l0_0.length l0_0) (hc0_0 : l0_0.length ≤ c0_0) (h : laws_FnExactAddAt.f k l0_0 a1 a2 = some r) :
    Calls Try.prog 8 #[.agg #[.slice A0_0 l0_0.length c0_0], .int .i64 a1, .int .i64 a2] w fun e w' => e = .returned (.bool r) ∧ Below w.heap.size w w' := by
  have hu24 := Try.underlying24
  have hu27 := Try.underlying27
  have HR0_0 := Aside0.mk hr0_0
  have HC0_0 := Aside0.mk hc0_0
  clear hr0_0 hc0_0
  have HB := Aside0.mk (Below.refl w.heap.size w)
  have H : ((laws_szSums.f l0_0 1048576).bind fun t207 => (if t207 < 0 then (some true) else ((laws_toSums.f k l0_0).bind fun t208 => ((spec_AddAt.f k t208 a1 a2).bind fun bt211 => ((laws_toSums.f k l0_0).bind fun t216 => ((impl_AddAt.f k t216 a1 a2).bind fun bt220 => ((laws_eqSums.f k bt220.1 bt211.1).bind fun t225 => (if t225 = true then (laws_FnExactAddAt.j0 k a1 a2 bt211.2 bt220.2 (bt220.2 != bt211.2) l0_0 bt211.1 t216 bt220.1) else (laws_FnExactAddAt.j0 k a1 a2 bt211.2 bt220.2 true l0_0 bt211.1 t216 bt220.1))))))))) = some r := h
  clear h
  replace H := Option.bind_eq_some_iff.mp H
  obtain ⟨t207, A40, H⟩ := H
  replace H : (if t207 < 0 then (some true) else ((laws_toSums.f k l0_0).bind fun t208 => ((spec_AddAt.f k t208 a1 a2).bind fun bt211 => ((laws_toSums.f k l0_0).bind fun t216 => ((impl_AddAt.f k t216 a1 a2).bind fun bt220 => ((laws_eqSums.f k bt220.1 bt211.1).bind fun t225 => (if t225 = true then (laws_FnExactAddAt.j0 k a1 a2 bt211.2 bt220.2 (bt220.2 != bt211.2) l0_0 bt211.1 t216 bt220.1) else (laws_FnExactAddAt.j0 k a1 a2 bt211.2 bt220.2 true l0_0 bt211.1 t216 bt220.1)))))))) = some r := H
  have A4 := Aside0.mk A40
  clear A40
  by_cases c5 : t207 < 0
  · rw [if_pos c5] at H
    have c5b0 : decide (t207 < 0) = true := decide_eq_true c5
    clear c5
    obtain rfl := Option.some.inj H
    go_enter Try.func8, Try.ntmps8
    go_wp2_with (first | ((with_reducible refine gate_dst (N := 3) rfl ?_); refine box_event ?hg (N := 3) ?hd (cs := #[.slice A0_0 l0_0.length c0_0]) (t := 24) ?hr ?_; (case hd => rfl); (case hg => rfl); (case hr => first | (go_simp; done) | (go_simp; rfl)); intro gb206 hg w6 hbox hb; have n0_ := Aside0.mk (below_step (by repeat (first | (with_reducible first | exact HB.out | apply below_alloc | apply pw_below_drewN | apply below_drew1) | exact HB.out)) hb); have n1_ := Aside0.mk (hbox); have n2_ := Aside0.mk ((by rw [hg]; exact (below_size (by repeat (first | (with_reducible first | exact HB.out | apply below_alloc | apply pw_below_drewN | apply below_drew1) | exact HB.out))) : w.heap.size ≤ gb206)); have n3_ := Aside0.mk ((by rw [hg]; exact (below_size (by repeat (first | (with_reducible first | exact HB.out | apply below_alloc | apply pw_below_drewN | apply below_drew1) | exact HB.out))) : w.heap.size ≤ gb206)); clear HB; have HB := n0_; have BK206 := n1_; have GW206 := n2_; have GE206 := n3_; clear n0_ n1_ n2_ n3_; clear hb hbox hg; have hcz7_0 : w6.cell? ⟨gb206, 0, none⟩ = some (.slice A0_0 l0_0.length c0_0) := (blk_cell BK206.out 0).trans rfl; have hfz7_0 := blk_frozen BK206.out 0) | ((with_reducible refine gate_callee (f := 15) rfl ?_); refine goesL_ (some 20) rfl rfl Try.func15 (by kernel_rfl) rfl #[.agg #[.slice A0_0 l0_0.length c0_0], .int .i64 1048576] rfl (by (try simp only [List.map_toArray, List.map_cons, List.map_nil]); first | done | rfl | (simp only [List.length_drop, List.length_take]; rfl)) ?_; (with_reducible refine (laws_szSums.calls _ _ l0_0 1048576 t207 _ ?side1 ?side2 A4.out).mono ?_); (case side1 => repeat (first | exact (Kd.C_below HR0_0.out HB.out) | (with_reducible refine Kd.C_alloc ?_ _) | (with_reducible refine Kd.C_drewN ?_ _) | (with_reducible refine Kd.C_drew ?_))); (case side2 => exact HC0_0.out); rintro e w8 ⟨rfl, hb⟩; refine ⟨_, rfl, ?_⟩; have n0_ := Aside0.mk (blk_below (g := gb206) (o := .cells #[.slice A0_0 l0_0.length c0_0] 24 (0, 0)) (by (with_reducible repeat (first | refine blk_drewN ?_ _ | refine blk_drew ?_ | refine blk_alloc ?_ _)); exact BK206.out) hb); have n1_ := Aside0.mk (below_step (by repeat (first | (with_reducible first | exact HB.out | apply below_alloc | apply pw_below_drewN | apply below_drew1 | refine below_set ?_ GE206.out) | exact HB.out)) hb); clear BK206; clear HB; have BK206 := n0_; have HB := n1_; clear n0_ n1_; (try clear hb); (try clear hb2); (try clear hk); (try clear hi)))
    go_ret
    exact ⟨by first | rfl | (simp [errW_none, errW_some] <;> rfl) | (simp [*, errW_none, errW_some] <;> rfl), by repeat (first | (with_reducible first | exact HB.out | apply below_alloc | apply pw_below_drewN | apply below_drew1 | refine below_set ?_ GE206.out) | exact HB.out)⟩
  · rw [if_neg c5] at H
    have c5b0 : decide (t207 < 0) = false := decide_eq_false c5
    clear c5
    replace H := Option.bind_eq_some_iff.mp H
    obtain ⟨t208, A90, H⟩ := H
    replace H : ((spec_AddAt.f k t208 a1 a2).bind fun bt211 => ((laws_toSums.f k l0_0).bind fun t216 => ((impl_AddAt.f k t216 a1 a2).bind fun bt220 => ((laws_eqSums.f k bt220.1 bt211.1).bind fun t225 => (if t225 = true then (laws_FnExactAddAt.j0 k a1 a2 bt211.2 bt220.2 (bt220.2 != bt211.2) l0_0 bt211.1 t216 bt220.1) else (laws_FnExactAddAt.j0 k a1 a2 bt211.2 bt220.2 true l0_0 bt211.1 t216 bt220.1)))))) = some r := H
    have A9 := Aside0.mk A90
    clear A90
    replace H := Option.bind_eq_some_iff.mp H
    obtain ⟨⟨t211, t214⟩, A100, H⟩ := H
    replace H : ((laws_toSums.f k l0_0).bind fun t216 => ((impl_AddAt.f k t216 a1 a2).bind fun bt220 => ((laws_eqSums.f k bt220.1 t211).bind fun t225 => (if t225 = true then (laws_FnExactAddAt.j0 k a1 a2 t214 bt220.2 (bt220.2 != t214) l0_0 t211 t216 bt220.1) else (laws_FnExactAddAt.j0 k a1 a2 t214 bt220.2 true l0_0 t211 t216 bt220.1))))) = some r := H
    have A10 := Aside0.mk A100
    clear A100
    replace H := Option.bind_eq_some_iff.mp H
    obtain ⟨t216, A110, H⟩ := H
    replace H : ((impl_AddAt.f k t216 a1 a2).bind fun bt220 => ((laws_eqSums.f k bt220.1 t211).bind fun t225 => (if t225 = true then (laws_FnExactAddAt.j0 k a1 a2 t214 bt220.2 (bt220.2 != t214) l0_0 t211 t216 bt220.1) else (laws_FnExactAddAt.j0 k a1 a2 t214 bt220.2 true l0_0 t211 t216 bt220.1)))) = some r := H
    have A11 := Aside0.mk A110
    clear A110
    replace H := Option.bind_eq_some_iff.mp H
    obtain ⟨⟨t220, t223⟩, A120, H⟩ := H
    replace H : ((laws_eqSums.f k t220 t211).bind fun t225 => (if t225 = true then (laws_FnExactAddAt.j0 k a1 a2 t214 t223 (t223 != t214) l0_0 t211 t216 t220) else (laws_FnExactAddAt.j0 k a1 a2 t214 t223 true l0_0 t211 t216 t220))) = some r := H
    have A12 := Aside0.mk A120
    clear A120
    have HC13 := Aside0.mk H
    clear H
    go_enter Try.func8, Try.ntmps8
    go_upto_region 8 with (first | ((with_reducible refine gate_dst (N := 3) rfl ?_); refine box_event ?hg (N := 3) ?hd (cs := #[.slice A0_0 l0_0.length c0_0]) (t := 24) ?hr ?_; (case hd => rfl); (case hg => rfl); (case hr => first | (go_simp; done) | (go_simp; rfl)); intro gb206 hg w14 hbox hb; have n0_ := Aside0.mk (below_step (by repeat (first | (with_reducible first | exact HB.out | apply below_alloc | apply pw_below_drewN | apply below_drew1) | exact HB.out)) hb); have n1_ := Aside0.mk (hbox); have n2_ := Aside0.mk ((by rw [hg]; exact (below_size (by repeat (first | (with_reducible first | exact HB.out | apply below_alloc | apply pw_below_drewN | apply below_drew1) | exact HB.out))) : w.heap.size ≤ gb206)); have n3_ := Aside0.mk ((by rw [hg]; exact (below_size (by repeat (first | (with_reducible first | exact HB.out | apply below_alloc | apply pw_below_drewN | apply below_drew1) | exact HB.out))) : w.heap.size ≤ gb206)); clear HB; have HB := n0_; have BK206 := n1_; have GW206 := n2_; have GE206 := n3_; clear n0_ n1_ n2_ n3_; clear hb hbox hg; have hcz15_0 : w14.cell? ⟨gb206, 0, none⟩ = some (.slice A0_0 l0_0.length c0_0) := (blk_cell BK206.out 0).trans rfl; have hfz15_0 := blk_frozen BK206.out 0) | ((with_reducible refine gate_callee (f := 15) rfl ?_); refine goesL_ (some 20) rfl rfl Try.func15 (by kernel_rfl) rfl #[.agg #[.slice A0_0 l0_0.length c0_0], .int .i64 1048576] rfl (by (try simp only [List.map_toArray, List.map_cons, List.map_nil]); first | done | rfl | (simp only [List.length_drop, List.length_take]; rfl)) ?_; (with_reducible refine (laws_szSums.calls _ _ l0_0 1048576 t207 _ ?side1 ?side2 A4.out).mono ?_); (case side1 => repeat (first | exact (Kd.C_below HR0_0.out HB.out) | (with_reducible refine Kd.C_alloc ?_ _) | (with_reducible refine Kd.C_drewN ?_ _) | (with_reducible refine Kd.C_drew ?_))); (case side2 => exact HC0_0.out); rintro e w16 ⟨rfl, hb⟩; refine ⟨_, rfl, ?_⟩; have n0_ := Aside0.mk (blk_below (g := gb206) (o := .cells #[.slice A0_0 l0_0.length c0_0] 24 (0, 0)) (by (with_reducible repeat (first | refine blk_drewN ?_ _ | refine blk_drew ?_ | refine blk_alloc ?_ _)); exact BK206.out) hb); have n1_ := Aside0.mk (below_step (by repeat (first | (with_reducible first | exact HB.out | apply below_alloc | apply pw_below_drewN | apply below_drew1 | refine below_set ?_ GE206.out) | exact HB.out)) hb); clear BK206; clear HB; have BK206 := n0_; have HB := n1_; clear n0_ n1_; (try clear hb); (try clear hb2); (try clear hk); (try clear hi); have hcz17_0 : w16.cell? ⟨gb206, 0, none⟩ = some (.slice A0_0 l0_0.length c0_0) := (blk_cell BK206.out 0).trans rfl; have hfz17_0 := blk_frozen BK206.out 0) | ((with_reducible refine gate_callee (f := 17) rfl ?_); refine goesL_ (some 25) rfl rfl Try.func17 (by kernel_rfl) rfl #[.agg #[.slice A0_0 l0_0.length c0_0]] rfl (by (try simp only [List.map_toArray, List.map_cons, List.map_nil]); first | done | rfl | (simp only [List.length_drop, List.length_take]; rfl)) ?_; (with_reducible refine (laws_toSums.calls k _ _ l0_0 t208 _ ?side1 ?side2 A9.out).mono ?_); (case side1 => repeat (first | exact (Kd.C_below HR0_0.out HB.out) | (with_reducible refine Kd.C_alloc ?_ _) | (with_reducible refine Kd.C_drewN ?_ _) | (with_reducible refine Kd.C_drew ?_))); (case side2 => exact HC0_0.out); rintro e w18 ⟨v209, rfl, ho0, hb⟩; refine ⟨_, rfl, ?_⟩; have n0_ := Aside0.mk (Kd.R_lower ho0 (below_size (by repeat (first | (with_reducible first | exact HB.out | apply below_alloc | apply pw_below_drewN | apply below_drew1 | refine below_set ?_ GE206.out) | exact HB.out)))); have n1_ := Aside0.mk (blk_below (g := gb206) (o := .cells #[.slice A0_0 l0_0.length c0_0] 24 (0, 0)) (by (with_reducible repeat (first | refine blk_drewN ?_ _ | refine blk_drew ?_ | refine blk_alloc ?_ _)); exact BK206.out) hb); have n2_ := Aside0.mk (below_step (by repeat (first | (with_reducible first | exact HB.out | apply below_alloc | apply pw_below_drewN | apply below_drew1 | refine below_set ?_ GE206.out) | exact HB.out)) hb); clear BK206; clear HB; have HO210 := n0_; have BK206 := n1_; have HB := n2_; clear n0_ n1_ n2_; (try clear hb); (try clear hb2); (try clear hk); (try clear hi); (try clear ho0); obtain ⟨Ao19, co19, eo19⟩ := Kd.R_slice HO210.out; subst eo19) | ((with_reducible refine gate_callee (f := 32) rfl ?_); refine goesL_ (some 28) rfl rfl Try.func32 (by kernel_rfl) rfl #[.agg #[.slice Ao19 t208.length co19], .int .i64 a1, .int .i64 a2] rfl (by (try simp only [List.map_toArray, List.map_cons, List.map_nil]); first | done | rfl | (simp only [List.length_drop, List.length_take]; rfl)) ?_; (with_reducible refine (spec_AddAt.calls k _ _ t208 a1 a2 t211 t214 _ ?side1 ?side2 A10.out).mono ?_); (case side1 => repeat (first | exact (Kd.R_reads' HO210.out).2.2 | (with_reducible refine Kd.C_alloc ?_ _) | (with_reducible refine Kd.C_drewN ?_ _) | (with_reducible refine Kd.C_drew ?_))); (case side2 => exact (Kd.R_reads' HO210.out).2.1); rintro e w20 ⟨v212, rfl, ho0, hb⟩; refine ⟨_, rfl, ?_⟩; have n0_ := Aside0.mk (Kd.R_elder' (by (with_reducible repeat (first | apply Kd.R_alloc | apply Kd.R_drewN | apply Kd.R_drew)); exact HO210.out) (Kd.R_base ho0) hb); have n1_ := Aside0.mk (Kd.R_lower (Kd.R_new' ho0 (Kd.R_lt (by (with_reducible repeat (first | apply Kd.R_alloc | apply Kd.R_drewN | apply Kd.R_drew)); exact HO210.out))) (below_size (by repeat (first | (with_reducible first | exact HB.out | apply below_alloc | apply pw_below_drewN | apply below_drew1 | refine below_set ?_ GE206.out) | exact HB.out)))); have n2_ := Aside0.mk (blk_below (g := gb206) (o := .cells #[.slice A0_0 l0_0.length c0_0] 24 (0, 0)) (by (with_reducible repeat (first | refine blk_drewN ?_ _ | refine blk_drew ?_ | refine blk_alloc ?_ _)); exact BK206.out) hb); have n3_ := Aside0.mk (below_step (by repeat (first | (with_reducible first | exact HB.out | apply below_alloc | apply pw_below_drewN | apply below_drew1 | refine below_set ?_ GE206.out) | exact HB.out)) hb); clear HO210; clear BK206; clear HB; have HO210 := n0_; have HO213 := n1_; have BK206 := n2_; have HB := n3_; clear n0_ n1_ n2_ n3_; (try clear hb); (try clear hb2); (try clear hk); (try clear hi); (try clear ho0)) | ((with_reducible refine gate_dst (N := 8) rfl ?_); refine box_event ?hg (N := 8) ?hd (cs := #[.slice none 0 0]) (t := 27) ?hr ?_; (case hd => rfl); (case hg => rfl); (case hr => first | (go_simp; done) | (go_simp; rfl)); intro gb215 hg w21 hbox hb; have n0_ := Aside0.mk (Kd.R_below (by (with_reducible repeat (first | apply Kd.R_alloc | apply Kd.R_drewN | apply Kd.R_drew)); exact HO210.out) hb); have n1_ := Aside0.mk (Kd.R_below (by (with_reducible repeat (first | apply Kd.R_alloc | apply Kd.R_drewN | apply Kd.R_drew)); exact HO213.out) hb); have n2_ := Aside0.mk (blk_below (g := gb206) (o := .cells #[.slice A0_0 l0_0.length c0_0] 24 (0, 0)) (by (with_reducible repeat (first | refine blk_drewN ?_ _ | refine blk_drew ?_ | refine blk_alloc ?_ _)); exact BK206.out) hb); have n3_ := Aside0.mk (below_step (by repeat (first | (with_reducible first | exact HB.out | apply below_alloc | apply pw_below_drewN | apply below_drew1 | refine below_set ?_ GE206.out) | exact HB.out)) hb); have n4_ := Aside0.mk (hbox); have n5_ := Aside0.mk ((by rw [hg]; exact (below_size (by repeat (first | (with_reducible first | exact HB.out | apply below_alloc | apply pw_below_drewN | apply below_drew1 | refine below_set ?_ GE206.out) | exact HB.out))) : w.heap.size ≤ gb215)); have n6_ := Aside0.mk ((by rw [hg]; exact (below_size (by repeat (first | (with_reducible first | exact HB.out | apply below_alloc | apply pw_below_drewN | apply below_drew1 | refine below_set ?_ GE206.out) | exact HB.out))) : w.heap.size ≤ gb215)); have n7_ := Aside0.mk ((by rw [hg]; exact Nat.ne_of_lt (blk_lt (g := gb206) (o := .cells #[.slice A0_0 l0_0.length c0_0] 24 (0, 0)) (by (with_reducible repeat (first | refine blk_drewN ?_ _ | refine blk_drew ?_ | refine blk_alloc ?_ _)); exact BK206.out)) : gb206 ≠ gb215)); have n8_ := Aside0.mk ((by rw [hg]; exact Nat.ne_of_gt (blk_lt (g := gb206) (o := .cells #[.slice A0_0 l0_0.length c0_0] 24 (0, 0)) (by (with_reducible repeat (first | refine blk_drewN ?_ _ | refine blk_drew ?_ | refine blk_alloc ?_ _)); exact BK206.out)) : gb215 ≠ gb206)); clear HO210; clear HO213; clear BK206; clear HB; have HO210 := n0_; have HO213 := n1_; have BK206 := n2_; have HB := n3_; have BK215 := n4_; have GW215 := n5_; have GE215 := n6_; have NB206_215 := n7_; have NB215_206 := n8_; clear n0_ n1_ n2_ n3_ n4_ n5_ n6_ n7_ n8_; clear hb hbox hg; obtain ⟨Ao22, co22, eo22⟩ := Kd.R_slice HO213.out; subst eo22; have hnb23 := NB215_206.out; have hnc23 := NB206_215.out; have hcz24_0 : w21.cell? ⟨gb215, 0, none⟩ = some (.slice none 0 0) := (blk_cell BK215.out 0).trans rfl; have hfz24_0 := blk_frozen BK215.out 0; have hcz25_0 : w21.cell? ⟨gb206, 0, none⟩ = some (.slice A0_0 l0_0.length c0_0) := (blk_cell BK206.out 0).trans rfl; have hfz25_0 := blk_frozen BK206.out 0) | ((with_reducible refine gate_callee (f := 17) rfl ?_); refine goesL_ (some 32) rfl rfl Try.func17 (by kernel_rfl) rfl #[.agg #[.slice A0_0 l0_0.length c0_0]] rfl (by (try simp only [List.map_toArray, List.map_cons, List.map_nil]); first | done | rfl | (simp only [List.length_drop, List.length_take]; rfl)) ?_; (with_reducible refine (laws_toSums.calls k _ _ l0_0 t216 _ ?side1 ?side2 A11.out).mono ?_); (case side1 => exact Kd.C_below HR0_0.out (by repeat (first | (with_reducible first | exact HB.out | apply below_alloc | apply pw_below_drewN | apply below_drew1 | refine below_set ?_ GE206.out | refine below_set ?_ GE215.out) | exact HB.out))); (case side2 => exact HC0_0.out); rintro e w26 ⟨v217, rfl, ho0, hb⟩; refine ⟨_, rfl, ?_⟩; have n0_ := Aside0.mk (Kd.R_elder' (by (with_reducible repeat (first | apply Kd.R_alloc | apply Kd.R_drewN | apply Kd.R_drew)); exact (Kd.R_mono (Kd.R_far (p := ⟨gb215, 0, none⟩) (Kd.R_types HO210.out BK215.out (by decide)) (fun _ hk => hk.2) (.slice Ao22 t211.length co22)) (fun _ h_ => h_.1))) (Kd.R_base ho0) hb); have n1_ := Aside0.mk (Kd.R_elder' (by (with_reducible repeat (first | apply Kd.R_alloc | apply Kd.R_drewN | apply Kd.R_drew)); exact (Kd.R_mono (Kd.R_far (p := ⟨gb215, 0, none⟩) (Kd.R_types HO213.out BK215.out (by decide)) (fun _ hk => hk.2) (.slice Ao22 t211.length co22)) (fun _ h_ => h_.1))) (Kd.R_base ho0) hb); have n2_ := Aside0.mk (Kd.R_lower (Kd.R_new' (Kd.R_new' ho0 (Kd.R_lt (by (with_reducible repeat (first | apply Kd.R_alloc | apply Kd.R_drewN | apply Kd.R_drew)); exact (Kd.R_mono (Kd.R_far (p := ⟨gb215, 0, none⟩) (Kd.R_types HO210.out BK215.out (by decide)) (fun _ hk => hk.2) (.slice Ao22 t211.length co22)) (fun _ h_ => h_.1))))) (Kd.R_lt (by (with_reducible repeat (first | apply Kd.R_alloc | apply Kd.R_drewN | apply Kd.R_drew)); exact (Kd.R_mono (Kd.R_far (p := ⟨gb215, 0, none⟩) (Kd.R_types HO213.out BK215.out (by decide)) (fun _ hk => hk.2) (.slice Ao22 t211.length co22)) (fun _ h_ => h_.1))))) (below_size (by repeat (first | (with_reducible first | exact HB.out | apply below_alloc | apply pw_below_drewN | apply below_drew1 | refine below_set ?_ GE206.out | refine below_set ?_ GE215.out) | exact HB.out)))); have n3_ := Aside0.mk (blk_below (g := gb206) (o := .cells #[.slice A0_0 l0_0.length c0_0] 24 (0, 0)) (by (with_reducible repeat (first | refine blk_drewN ?_ _ | refine blk_drew ?_ | refine blk_alloc ?_ _)); refine blk_far ?_ NB206_215.out _; (with_reducible repeat (first | refine blk_drewN ?_ _ | refine blk_drew ?_ | refine blk_alloc ?_ _)); exact BK206.out) hb); have n4_ := Aside0.mk (blk_below (g := gb215) (o := .cells #[.slice Ao22 t211.length co22] 27 (0, 0)) (by (with_reducible repeat (first | refine blk_drewN ?_ _ | refine blk_drew ?_ | refine blk_alloc ?_ _)); refine blk_put (cs := #[.slice none 0 0]) ?_ 0 _ rfl; (with_reducible repeat (first | refine blk_drewN ?_ _ | refine blk_drew ?_ | refine blk_alloc ?_ _)); exact BK215.out) hb); have n5_ := Aside0.mk (below_step (by repeat (first | (with_reducible first | exact HB.out | apply below_alloc | apply pw_below_drewN | apply below_drew1 | refine below_set ?_ GE206.out | refine below_set ?_ GE215.out) | exact HB.out)) hb); clear HO210; clear HO213; clear BK206; clear BK215; clear HB; have HO210 := n0_; have HO213 := n1_; have HO218 := n2_; have BK206 := n3_; have BK215 := n4_; have HB := n5_; clear n0_ n1_ n2_ n3_ n4_ n5_; (try clear hb); (try clear hb2); (try clear hk); (try clear hi); (try clear ho0)) | ((with_reducible refine gate_dst (N := 10) rfl ?_); refine box_event ?hg (N := 10) ?hd (cs := #[.slice none 0 0]) (t := 27) ?hr ?_; (case hd => rfl); (case hg => rfl); (case hr => first | (go_simp; done) | (go_simp; rfl)); intro gb219 hg w27 hbox hb; have n0_ := Aside0.mk (Kd.R_below (by (with_reducible repeat (first | apply Kd.R_alloc | apply Kd.R_drewN | apply Kd.R_drew)); exact HO210.out) hb); have n1_ := Aside0.mk (Kd.R_below (by (with_reducible repeat (first | apply Kd.R_alloc | apply Kd.R_drewN | apply Kd.R_drew)); exact HO213.out) hb); have n2_ := Aside0.mk (Kd.R_below (by (with_reducible repeat (first | apply Kd.R_alloc | apply Kd.R_drewN | apply Kd.R_drew)); exact HO218.out) hb); have n3_ := Aside0.mk (blk_below (g := gb206) (o := .cells #[.slice A0_0 l0_0.length c0_0] 24 (0, 0)) (by (with_reducible repeat (first | refine blk_drewN ?_ _ | refine blk_drew ?_ | refine blk_alloc ?_ _)); exact BK206.out) hb); have n4_ := Aside0.mk (blk_below (g := gb215) (o := .cells #[.slice Ao22 t211.length co22] 27 (0, 0)) (by (with_reducible repeat (first | refine blk_drewN ?_ _ | refine blk_drew ?_ | refine blk_alloc ?_ _)); exact BK215.out) hb); have n5_ := Aside0.mk (below_step (by repeat (first | (with_reducible first | exact HB.out | apply below_alloc | apply pw_below_drewN | apply below_drew1 | refine below_set ?_ GE206.out | refine below_set ?_ GE215.out) | exact HB.out)) hb); have n6_ := Aside0.mk (hbox); have n7_ := Aside0.mk ((by rw [hg]; exact (below_size (by repeat (first | (with_reducible first | exact HB.out | apply below_alloc | apply pw_below_drewN | apply below_drew1 | refine below_set ?_ GE206.out | refine below_set ?_ GE215.out) | exact HB.out))) : w.heap.size ≤ gb219)); have n8_ := Aside0.mk ((by rw [hg]; exact (below_size (by repeat (first | (with_reducible first | exact HB.out | apply below_alloc | apply pw_below_drewN | apply below_drew1 | refine below_set ?_ GE206.out | refine below_set ?_ GE215.out) | exact HB.out))) : w.heap.size ≤ gb219)); have n9_ := Aside0.mk ((by rw [hg]; exact Nat.ne_of_lt (blk_lt (g := gb206) (o := .cells #[.slice A0_0 l0_0.length c0_0] 24 (0, 0)) (by (with_reducible repeat (first | refine blk_drewN ?_ _ | refine blk_drew ?_ | refine blk_alloc ?_ _)); exact BK206.out)) : gb206 ≠ gb219)); have n10_ := Aside0.mk ((by rw [hg]; exact Nat.ne_of_gt (blk_lt (g := gb206) (o := .cells #[.slice A0_0 l0_0.length c0_0] 24 (0, 0)) (by (with_reducible repeat (first | refine blk_drewN ?_ _ | refine blk_drew ?_ | refine blk_alloc ?_ _)); exact BK206.out)) : gb219 ≠ gb206)); have n11_ := Aside0.mk ((by rw [hg]; exact Nat.ne_of_lt (blk_lt (g := gb215) (o := .cells #[.slice Ao22 t211.length co22] 27 (0, 0)) (by (with_reducible repeat (first | refine blk_drewN ?_ _ | refine blk_drew ?_ | refine blk_alloc ?_ _)); exact BK215.out)) : gb215 ≠ gb219)); have n12_ := Aside0.mk ((by rw [hg]; exact Nat.ne_of_gt (blk_lt (g := gb215) (o := .cells #[.slice Ao22 t211.length co22] 27 (0, 0)) (by (with_reducible repeat (first | refine blk_drewN ?_ _ | refine blk_drew ?_ | refine blk_alloc ?_ _)); exact BK215.out)) : gb219 ≠ gb215)); clear HO210; clear HO213; clear HO218; clear BK206; clear BK215; clear HB; have HO210 := n0_; have HO213 := n1_; have HO218 := n2_; have BK206 := n3_; have BK215 := n4_; have HB := n5_; have BK219 := n6_; have GW219 := n7_; have GE219 := n8_; have NB206_219 := n9_; have NB219_206 := n10_; have NB215_219 := n11_; have NB219_215 := n12_; clear n0_ n1_ n2_ n3_ n4_ n5_ n6_ n7_ n8_ n9_ n10_ n11_ n12_; clear hb hbox hg; obtain ⟨Ao28, co28, eo28⟩ := Kd.R_slice HO218.out; subst eo28; have hnb29 := NB219_206.out; have hnc29 := NB206_219.out; have hnb30 := NB219_215.out; have hnc30 := NB215_219.out; have hcz31_0 : w27.cell? ⟨gb219, 0, none⟩ = some (.slice none 0 0) := (blk_cell BK219.out 0).trans rfl; have hfz31_0 := blk_frozen BK219.out 0) | ((with_reducible refine gate_callee (f := 33) rfl ?_); refine goesL_ (some 37) rfl rfl Try.func33 (by kernel_rfl) rfl #[.agg #[.slice Ao28 t216.length co28], .int .i64 a1, .int .i64 a2] rfl (by (try simp only [List.map_toArray, List.map_cons, List.map_nil]); first | done | rfl | (simp only [List.length_drop, List.length_take]; rfl)) ?_; (with_reducible refine (impl_AddAt.calls k _ _ t216 a1 a2 t220 t223 _ ?side1 ?side2 A12.out).mono ?_); (case side1 => refine (Kd.R_reads' (e := 3) (base := w.heap.size) (ok := fun k_ => ((True ∧ some k_ ≠ (.slice Ao19 t208.length co19 : Value).ownBlock) ∧ some k_ ≠ (.slice Ao22 t211.length co22 : Value).ownBlock)) (n := t216.length) (c := co28) ?_).2.2; exact (by (with_reducible repeat (first | apply Kd.R_alloc | apply Kd.R_drewN | apply Kd.R_drew)); exact (Kd.R_mono (Kd.R_far (p := ⟨gb219, 0, none⟩) (Kd.R_types HO218.out BK219.out (by decide)) (fun _ hk => hk.2) (.slice Ao28 t216.length co28)) (fun _ h_ => h_.1)))); (case side2 => exact (Kd.R_reads' HO218.out).2.1); rintro e w32 ⟨v221, rfl, ho0, hb⟩; refine ⟨_, rfl, ?_⟩; have n0_ := Aside0.mk (Kd.R_elder' (by (with_reducible repeat (first | apply Kd.R_alloc | apply Kd.R_drewN | apply Kd.R_drew)); exact (Kd.R_mono (Kd.R_far (p := ⟨gb219, 0, none⟩) (Kd.R_types HO210.out BK219.out (by decide)) (fun _ hk => hk.2) (.slice Ao28 t216.length co28)) (fun _ h_ => h_.1))) (Kd.R_base ho0) hb); have n1_ := Aside0.mk (Kd.R_elder' (by (with_reducible repeat (first | apply Kd.R_alloc | apply Kd.R_drewN | apply Kd.R_drew)); exact (Kd.R_mono (Kd.R_far (p := ⟨gb219, 0, none⟩) (Kd.R_types HO213.out BK219.out (by decide)) (fun _ hk => hk.2) (.slice Ao28 t216.length co28)) (fun _ h_ => h_.1))) (Kd.R_base ho0) hb); have n2_ := Aside0.mk (Kd.R_elder' (by (with_reducible repeat (first | apply Kd.R_alloc | apply Kd.R_drewN | apply Kd.R_drew)); exact (Kd.R_mono (Kd.R_far (p := ⟨gb219, 0, none⟩) (Kd.R_types HO218.out BK219.out (by decide)) (fun _ hk => hk.2) (.slice Ao28 t216.length co28)) (fun _ h_ => h_.1))) (Kd.R_base ho0) hb); have n3_ := Aside0.mk (Kd.R_lower (Kd.R_new' (Kd.R_new' (Kd.R_new' ho0 (Kd.R_lt (by (with_reducible repeat (first | apply Kd.R_alloc | apply Kd.R_drewN | apply Kd.R_drew)); exact (Kd.R_mono (Kd.R_far (p := ⟨gb219, 0, none⟩) (Kd.R_types HO210.out BK219.out (by decide)) (fun _ hk => hk.2) (.slice Ao28 t216.length co28)) (fun _ h_ => h_.1))))) (Kd.R_lt (by (with_reducible repeat (first | apply Kd.R_alloc | apply Kd.R_drewN | apply Kd.R_drew)); exact (Kd.R_mono (Kd.R_far (p := ⟨gb219, 0, none⟩) (Kd.R_types HO213.out BK219.out (by decide)) (fun _ hk => hk.2) (.slice Ao28 t216.length co28)) (fun _ h_ => h_.1))))) (Kd.R_lt (by (with_reducible repeat (first | apply Kd.R_alloc | apply Kd.R_drewN | apply Kd.R_drew)); exact (Kd.R_mono (Kd.R_far (p := ⟨gb219, 0, none⟩) (Kd.R_types HO218.out BK219.out (by decide)) (fun _ hk => hk.2) (.slice Ao28 t216.length co28)) (fun _ h_ => h_.1))))) (below_size (by repeat (first | (with_reducible first | exact HB.out | apply below_alloc | apply pw_below_drewN | apply below_drew1 | refine below_set ?_ GE206.out | refine below_set ?_ GE215.out | refine below_set ?_ GE219.out) | exact HB.out)))); have n4_ := Aside0.mk (blk_below (g := gb206) (o := .cells #[.slice A0_0 l0_0.length c0_0] 24 (0, 0)) (by (with_reducible repeat (first | refine blk_drewN ?_ _ | refine blk_drew ?_ | refine blk_alloc ?_ _)); refine blk_far ?_ NB206_219.out _; (with_reducible repeat (first | refine blk_drewN ?_ _ | refine blk_drew ?_ | refine blk_alloc ?_ _)); exact BK206.out) hb); have n5_ := Aside0.mk (blk_below (g := gb215) (o := .cells #[.slice Ao22 t211.length co22] 27 (0, 0)) (by (with_reducible repeat (first | refine blk_drewN ?_ _ | refine blk_drew ?_ | refine blk_alloc ?_ _)); refine blk_far ?_ NB215_219.out _; (with_reducible repeat (first | refine blk_drewN ?_ _ | refine blk_drew ?_ | refine blk_alloc ?_ _)); exact BK215.out) hb); have n6_ := Aside0.mk (blk_below (g := gb219) (o := .cells #[.slice Ao28 t216.length co28] 27 (0, 0)) (by (with_reducible repeat (first | refine blk_drewN ?_ _ | refine blk_drew ?_ | refine blk_alloc ?_ _)); refine blk_put (cs := #[.slice none 0 0]) ?_ 0 _ rfl; (with_reducible repeat (first | refine blk_drewN ?_ _ | refine blk_drew ?_ | refine blk_alloc ?_ _)); exact BK219.out) hb); have n7_ := Aside0.mk (below_step (by repeat (first | (with_reducible first | exact HB.out | apply below_alloc | apply pw_below_drewN | apply below_drew1 | refine below_set ?_ GE206.out | refine below_set ?_ GE215.out | refine below_set ?_ GE219.out) | exact HB.out)) hb); clear HO210; clear HO213; clear HO218; clear BK206; clear BK215; clear BK219; clear HB; have HO210 := n0_; have HO213 := n1_; have HO218 := n2_; have HO222 := n3_; have BK206 := n4_; have BK215 := n5_; have BK219 := n6_; have HB := n7_; clear n0_ n1_ n2_ n3_ n4_ n5_ n6_ n7_; (try clear hb); (try clear hb2); (try clear hk); (try clear hi); (try clear ho0)) | ((with_reducible refine gate_dst (N := 11) rfl ?_); refine box_event ?hg (N := 11) ?hd (cs := #[.slice none 0 0]) (t := 27) ?hr ?_; (case hd => rfl); (case hg => rfl); (case hr => first | (go_simp; done) | (go_simp; rfl)); intro gb224 hg w33 hbox hb; have n0_ := Aside0.mk (Kd.R_below (by (with_reducible repeat (first | apply Kd.R_alloc | apply Kd.R_drewN | apply Kd.R_drew)); exact HO210.out) hb); have n1_ := Aside0.mk (Kd.R_below (by (with_reducible repeat (first | apply Kd.R_alloc | apply Kd.R_drewN | apply Kd.R_drew)); exact HO213.out) hb); have n2_ := Aside0.mk (Kd.R_below (by (with_reducible repeat (first | apply Kd.R_alloc | apply Kd.R_drewN | apply Kd.R_drew)); exact HO218.out) hb); have n3_ := Aside0.mk (Kd.R_below (by (with_reducible repeat (first | apply Kd.R_alloc | apply Kd.R_drewN | apply Kd.R_drew)); exact HO222.out) hb); have n4_ := Aside0.mk (blk_below (g := gb206) (o := .cells #[.slice A0_0 l0_0.length c0_0] 24 (0, 0)) (by (with_reducible repeat (first | refine blk_drewN ?_ _ | refine blk_drew ?_ | refine blk_alloc ?_ _)); exact BK206.out) hb); have n5_ := Aside0.mk (blk_below (g := gb215) (o := .cells #[.slice Ao22 t211.length co22] 27 (0, 0)) (by (with_reducible repeat (first | refine blk_drewN ?_ _ | refine blk_drew ?_ | refine blk_alloc ?_ _)); exact BK215.out) hb); have n6_ := Aside0.mk (blk_below (g := gb219) (o := .cells #[.slice Ao28 t216.length co28] 27 (0, 0)) (by (with_reducible repeat (first | refine blk_drewN ?_ _ | refine blk_drew ?_ | refine blk_alloc ?_ _)); exact BK219.out) hb); have n7_ := Aside0.mk (below_step (by repeat (first | (with_reducible first | exact HB.out | apply below_alloc | apply pw_below_drewN | apply below_drew1 | refine below_set ?_ GE206.out | refine below_set ?_ GE215.out | refine below_set ?_ GE219.out) | exact HB.out)) hb); have n8_ := Aside0.mk (hbox); have n9_ := Aside0.mk ((by rw [hg]; exact (below_size (by repeat (first | (with_reducible first | exact HB.out | apply below_alloc | apply pw_below_drewN | apply below_drew1 | refine below_set ?_ GE206.out | refine below_set ?_ GE215.out | refine below_set ?_ GE219.out) | exact HB.out))) : w.heap.size ≤ gb224)); have n10_ := Aside0.mk ((by rw [hg]; exact (below_size (by repeat (first | (with_reducible first | exact HB.out | apply below_alloc | apply pw_below_drewN | apply below_drew1 | refine below_set ?_ GE206.out | refine below_set ?_ GE215.out | refine below_set ?_ GE219.out) | exact HB.out))) : w.heap.size ≤ gb224)); have n11_ := Aside0.mk ((by rw [hg]; exact Nat.ne_of_lt (blk_lt (g := gb206) (o := .cells #[.slice A0_0 l0_0.length c0_0] 24 (0, 0)) (by (with_reducible repeat (first | refine blk_drewN ?_ _ | refine blk_drew ?_ | refine blk_alloc ?_ _)); exact BK206.out)) : gb206 ≠ gb224)); have n12_ := Aside0.mk ((by rw [hg]; exact Nat.ne_of_gt (blk_lt (g := gb206) (o := .cells #[.slice A0_0 l0_0.length c0_0] 24 (0, 0)) (by (with_reducible repeat (first | refine blk_drewN ?_ _ | refine blk_drew ?_ | refine blk_alloc ?_ _)); exact BK206.out)) : gb224 ≠ gb206)); have n13_ := Aside0.mk ((by rw [hg]; exact Nat.ne_of_lt (blk_lt (g := gb215) (o := .cells #[.slice Ao22 t211.length co22] 27 (0, 0)) (by (with_reducible repeat (first | refine blk_drewN ?_ _ | refine blk_drew ?_ | refine blk_alloc ?_ _)); exact BK215.out)) : gb215 ≠ gb224)); have n14_ := Aside0.mk ((by rw [hg]; exact Nat.ne_of_gt (blk_lt (g := gb215) (o := .cells #[.slice Ao22 t211.length co22] 27 (0, 0)) (by (with_reducible repeat (first | refine blk_drewN ?_ _ | refine blk_drew ?_ | refine blk_alloc ?_ _)); exact BK215.out)) : gb224 ≠ gb215)); have n15_ := Aside0.mk ((by rw [hg]; exact Nat.ne_of_lt (blk_lt (g := gb219) (o := .cells #[.slice Ao28 t216.length co28] 27 (0, 0)) (by (with_reducible repeat (first | refine blk_drewN ?_ _ | refine blk_drew ?_ | refine blk_alloc ?_ _)); exact BK219.out)) : gb219 ≠ gb224)); have n16_ := Aside0.mk ((by rw [hg]; exact Nat.ne_of_gt (blk_lt (g := gb219) (o := .cells #[.slice Ao28 t216.length co28] 27 (0, 0)) (by (with_reducible repeat (first | refine blk_drewN ?_ _ | refine blk_drew ?_ | refine blk_alloc ?_ _)); exact BK219.out)) : gb224 ≠ gb219)); clear HO210; clear HO213; clear HO218; clear HO222; clear BK206; clear BK215; clear BK219; clear HB; have HO210 := n0_; have HO213 := n1_; have HO218 := n2_; have HO222 := n3_; have BK206 := n4_; have BK215 := n5_; have BK219 := n6_; have HB := n7_; have BK224 := n8_; have GW224 := n9_; have GE224 := n10_; have NB206_224 := n11_; have NB224_206 := n12_; have NB215_224 := n13_; have NB224_215 := n14_; have NB219_224 := n15_; have NB224_219 := n16_; clear n0_ n1_ n2_ n3_ n4_ n5_ n6_ n7_ n8_ n9_ n10_ n11_ n12_ n13_ n14_ n15_ n16_; clear hb hbox hg; obtain ⟨Ao34, co34, eo34⟩ := Kd.R_slice HO222.out; subst eo34; have hnb35 := NB224_206.out; have hnc35 := NB206_224.out; have hnb36 := NB224_215.out; have hnc36 := NB215_224.out; have hnb37 := NB224_219.out; have hnc37 := NB219_224.out; have hcz38_0 : w33.cell? ⟨gb224, 0, none⟩ = some (.slice none 0 0) := (blk_cell BK224.out 0).trans rfl; have hfz38_0 := blk_frozen BK224.out 0))
    (try simp only [Act.put, List.setIfInBounds_toArray, List.set_cons_zero, List.set_cons_succ])
    go_cut [48] (fun v48 wc => ∃ (kq : Nat) (x48_12 : Bool), v48 = .bool x48_12 ∧ Aside0 (laws_FnExactAddAt.j0 kq a1 a2 t214 t223 x48_12 l0_0 t211 t216 t220 = some r) ∧ Aside0 (kq ≤ k) ∧ Aside0 (Kd.R (Kd.int .i64) 3 wc w.heap.size (fun k_ => some k_ ≠ ((.slice Ao28 t216.length co28) : Value).ownBlock ∧ some k_ ≠ ((.slice Ao34 t220.length co34) : Value).ownBlock) (.slice Ao22 t211.length co22) t211) ∧ Aside0 (Kd.R (Kd.int .i64) 3 wc w.heap.size (fun k_ => some k_ ≠ ((.slice Ao22 t211.length co22) : Value).ownBlock ∧ some k_ ≠ ((.slice Ao34 t220.length co34) : Value).ownBlock) (.slice Ao28 t216.length co28) t216) ∧ Aside0 (Kd.R (Kd.int .i64) 3 wc w.heap.size (fun k_ => some k_ ≠ ((.slice Ao22 t211.length co22) : Value).ownBlock ∧ some k_ ≠ ((.slice Ao28 t216.length co28) : Value).ownBlock) (.slice Ao34 t220.length co34) t220) ∧ Aside0 (wc.heap[gb206]? = some (.cells #[(.slice A0_0 l0_0.length c0_0)] 24 (0, 0))) ∧ Aside0 (wc.heap[gb215]? = some (.cells #[(.slice Ao22 t211.length co22)] 27 (0, 0))) ∧ Aside0 (wc.heap[gb219]? = some (.cells #[(.slice Ao28 t216.length co28)] 27 (0, 0))) ∧ Aside0 (wc.heap[gb224]? = some (.cells #[(.slice Ao34 t220.length co34)] 27 (0, 0))) ∧ Aside0 (Below w.heap.size w wc))
    case first =>
      have H := HC13.out
      clear HC13
      replace H := Option.bind_eq_some_iff.mp H
      obtain ⟨t225, A390, H⟩ := H
      replace H : (if t225 = true then (laws_FnExactAddAt.j0 k a1 a2 t214 t223 (t223 != t214) l0_0 t211 t216 t220) else (laws_FnExactAddAt.j0 k a1 a2 t214 t223 true l0_0 t211 t216 t220)) = some r := H
      have A39 := Aside0.mk A390
      clear A390
      by_cases c40 : t225 = true
      · subst c40
        have H1 : (laws_FnExactAddAt.j0 k a1 a2 t214 t223 (t223 != t214) l0_0 t211 t216 t220) = some r := by rw [if_pos rfl] at H; exact H
        clear H
        have H := H1
        clear H1
        have H' := Aside0.mk H
        clear H
        have hnb41 := NB224_206.out
        have hnc41 := NB206_224.out
        have hnb42 := NB224_215.out
        have hnc42 := NB215_224.out
        have hnb43 := NB224_219.out
        have hnc43 := NB219_224.out
        have hcz44_0 : w33.cell? ⟨gb224, 0, none⟩ = some (.slice none 0 0) := (blk_cell BK224.out 0).trans rfl
        have hfz44_0 := blk_frozen BK224.out 0
        have hnb45 := NB215_206.out
        have hnc45 := NB206_215.out
        have hnb46 := NB215_219.out
        have hnc46 := NB219_215.out
        have hcz47_0 : w33.cell? ⟨gb215, 0, none⟩ = some (.slice Ao22 t211.length co22) := (blk_cell BK215.out 0).trans rfl
        have hfz47_0 := blk_frozen BK215.out 0
        go_wp2_with (first | ((with_reducible refine gate_callee (f := 19) rfl ?_); refine goesL_ (some 42) rfl rfl Try.func19 (by kernel_rfl) rfl #[.agg #[.slice Ao34 t220.length co34], .agg #[.slice Ao22 t211.length co22]] rfl (by (try simp only [List.map_toArray, List.map_cons, List.map_nil]); first | done | rfl | (simp only [List.length_drop, List.length_take]; rfl)) ?_; (with_reducible refine (laws_eqSums.calls k _ _ t220 _ _ t211 true _ ?side1 ?side2 ?side3 ?side4 A39.out).mono ?_); (case side1 => refine (Kd.R_reads' (e := 3) (base := w.heap.size) (ok := fun k_ => (((True ∧ some k_ ≠ (.slice Ao19 t208.length co19 : Value).ownBlock) ∧ some k_ ≠ (.slice Ao22 t211.length co22 : Value).ownBlock) ∧ some k_ ≠ (.slice Ao28 t216.length co28 : Value).ownBlock)) (n := t220.length) (c := co34) ?_).2.2; exact (by (with_reducible repeat (first | apply Kd.R_alloc | apply Kd.R_drewN | apply Kd.R_drew)); exact (Kd.R_mono (Kd.R_far (p := ⟨gb224, 0, none⟩) (Kd.R_types HO222.out BK224.out (by decide)) (fun _ hk => hk.2) (.slice Ao34 t220.length co34)) (fun _ h_ => h_.1)))); (case side2 => exact (Kd.R_reads' HO222.out).2.1); (case side3 => refine (Kd.R_reads' (e := 3) (base := w.heap.size) (ok := fun k_ => (((True ∧ some k_ ≠ (.slice Ao19 t208.length co19 : Value).ownBlock) ∧ some k_ ≠ (.slice Ao28 t216.length co28 : Value).ownBlock) ∧ some k_ ≠ (.slice Ao34 t220.length co34 : Value).ownBlock)) (n := t211.length) (c := co22) ?_).2.2; exact (by (with_reducible repeat (first | apply Kd.R_alloc | apply Kd.R_drewN | apply Kd.R_drew)); exact (Kd.R_mono (Kd.R_far (p := ⟨gb224, 0, none⟩) (Kd.R_types HO213.out BK224.out (by decide)) (fun _ hk => hk.2) (.slice Ao34 t220.length co34)) (fun _ h_ => h_.1)))); (case side4 => exact (Kd.R_reads' HO213.out).2.1); rintro e w48 ⟨rfl, hb⟩; refine ⟨_, rfl, ?_⟩; have n0_ := Aside0.mk (Kd.R_below (by (with_reducible repeat (first | apply Kd.R_alloc | apply Kd.R_drewN | apply Kd.R_drew)); exact (Kd.R_mono (Kd.R_far (p := ⟨gb224, 0, none⟩) (Kd.R_types HO210.out BK224.out (by decide)) (fun _ hk => hk.2) (.slice Ao34 t220.length co34)) (fun _ h_ => h_.1))) hb); have n1_ := Aside0.mk (Kd.R_below (by (with_reducible repeat (first | apply Kd.R_alloc | apply Kd.R_drewN | apply Kd.R_drew)); exact (Kd.R_mono (Kd.R_far (p := ⟨gb224, 0, none⟩) (Kd.R_types HO213.out BK224.out (by decide)) (fun _ hk => hk.2) (.slice Ao34 t220.length co34)) (fun _ h_ => h_.1))) hb); have n2_ := Aside0.mk (Kd.R_below (by (with_reducible repeat (first | apply Kd.R_alloc | apply Kd.R_drewN | apply Kd.R_drew)); exact (Kd.R_mono (Kd.R_far (p := ⟨gb224, 0, none⟩) (Kd.R_types HO218.out BK224.out (by decide)) (fun _ hk => hk.2) (.slice Ao34 t220.length co34)) (fun _ h_ => h_.1))) hb); have n3_ := Aside0.mk (Kd.R_below (by (with_reducible repeat (first | apply Kd.R_alloc | apply Kd.R_drewN | apply Kd.R_drew)); exact (Kd.R_mono (Kd.R_far (p := ⟨gb224, 0, none⟩) (Kd.R_types HO222.out BK224.out (by decide)) (fun _ hk => hk.2) (.slice Ao34 t220.length co34)) (fun _ h_ => h_.1))) hb); have n4_ := Aside0.mk (blk_below (g := gb206) (o := .cells #[.slice A0_0 l0_0.length c0_0] 24 (0, 0)) (by (with_reducible repeat (first | refine blk_drewN ?_ _ | refine blk_drew ?_ | refine blk_alloc ?_ _)); refine blk_far ?_ NB206_224.out _; (with_reducible repeat (first | refine blk_drewN ?_ _ | refine blk_drew ?_ | refine blk_alloc ?_ _)); exact BK206.out) hb); have n5_ := Aside0.mk (blk_below (g := gb215) (o := .cells #[.slice Ao22 t211.length co22] 27 (0, 0)) (by (with_reducible repeat (first | refine blk_drewN ?_ _ | refine blk_drew ?_ | refine blk_alloc ?_ _)); refine blk_far ?_ NB215_224.out _; (with_reducible repeat (first | refine blk_drewN ?_ _ | refine blk_drew ?_ | refine blk_alloc ?_ _)); exact BK215.out) hb); have n6_ := Aside0.mk (blk_below (g := gb219) (o := .cells #[.slice Ao28 t216.length co28] 27 (0, 0)) (by (with_reducible repeat (first | refine blk_drewN ?_ _ | refine blk_drew ?_ | refine blk_alloc ?_ _)); refine blk_far ?_ NB219_224.out _; (with_reducible repeat (first | refine blk_drewN ?_ _ | refine blk_drew ?_ | refine blk_alloc ?_ _)); exact BK219.out) hb); have n7_ := Aside0.mk (blk_below (g := gb224) (o := .cells #[.slice Ao34 t220.length co34] 27 (0, 0)) (by (with_reducible repeat (first | refine blk_drewN ?_ _ | refine blk_drew ?_ | refine blk_alloc ?_ _)); refine blk_put (cs := #[.slice none 0 0]) ?_ 0 _ rfl; (with_reducible repeat (first | refine blk_drewN ?_ _ | refine blk_drew ?_ | refine blk_alloc ?_ _)); exact BK224.out) hb); have n8_ := Aside0.mk (below_step (by repeat (first | (with_reducible first | exact HB.out | apply below_alloc | apply pw_below_drewN | apply below_drew1 | refine below_set ?_ GE206.out | refine below_set ?_ GE215.out | refine below_set ?_ GE219.out | refine below_set ?_ GE224.out) | exact HB.out)) hb); clear HO210; clear HO213; clear HO218; clear HO222; clear BK206; clear BK215; clear BK219; clear BK224; clear HB; have HO210 := n0_; have HO213 := n1_; have HO218 := n2_; have HO222 := n3_; have BK206 := n4_; have BK215 := n5_; have BK219 := n6_; have BK224 := n7_; have HB := n8_; clear n0_ n1_ n2_ n3_ n4_ n5_ n6_ n7_ n8_; (try clear hb); (try clear hb2); (try clear hk); (try clear hi)))
        go_meet
        case rel => exact ⟨_, ((t223 != t214)), (by first | rfl | (simp; done) | (simp [*]; done)), H', ⟨by first | omega | exact Nat.le_refl _⟩, ⟨by (with_reducible repeat (first | apply Kd.R_alloc | apply Kd.R_drewN | apply Kd.R_drew)); exact Kd.R_mono HO213.out (fun _ hk => ⟨hk.1.2, hk.2⟩)⟩, ⟨by (with_reducible repeat (first | apply Kd.R_alloc | apply Kd.R_drewN | apply Kd.R_drew)); exact Kd.R_mono HO218.out (fun _ hk => ⟨hk.1.2, hk.2⟩)⟩, ⟨by (with_reducible repeat (first | apply Kd.R_alloc | apply Kd.R_drewN | apply Kd.R_drew)); exact Kd.R_mono HO222.out (fun _ hk => ⟨hk.1.2, hk.2⟩)⟩, ⟨by (with_reducible repeat (first | refine blk_drewN ?_ _ | refine blk_drew ?_ | refine blk_alloc ?_ _)); exact BK206.out⟩, ⟨by (with_reducible repeat (first | refine blk_drewN ?_ _ | refine blk_drew ?_ | refine blk_alloc ?_ _)); exact BK215.out⟩, ⟨by (with_reducible repeat (first | refine blk_drewN ?_ _ | refine blk_drew ?_ | refine blk_alloc ?_ _)); exact BK219.out⟩, ⟨by (with_reducible repeat (first | refine blk_drewN ?_ _ | refine blk_drew ?_ | refine blk_alloc ?_ _)); exact BK224.out⟩, ⟨by repeat (first | (with_reducible first | exact HB.out | apply below_alloc | apply pw_below_drewN | apply below_drew1 | refine below_set ?_ GE206.out | refine below_set ?_ GE215.out | refine below_set ?_ GE219.out | refine below_set ?_ GE224.out) | exact HB.out)⟩⟩
      · replace c40 := Bool.eq_false_iff.mpr c40
        subst c40
        have H1 : (laws_FnExactAddAt.j0 k a1 a2 t214 t223 true l0_0 t211 t216 t220) = some r := by rw [if_neg (show ¬ (false = true) by decide)] at H; exact H
        clear H
        have H := H1
        clear H1
        have H' := Aside0.mk H
        clear H
        have hnb49 := NB224_206.out
        have hnc49 := NB206_224.out
        have hnb50 := NB224_215.out
        have hnc50 := NB215_224.out
        have hnb51 := NB224_219.out
        have hnc51 := NB219_224.out
        have hcz52_0 : w33.cell? ⟨gb224, 0, none⟩ = some (.slice none 0 0) := (blk_cell BK224.out 0).trans rfl
        have hfz52_0 := blk_frozen BK224.out 0
        have hnb53 := NB215_206.out
        have hnc53 := NB206_215.out
        have hnb54 := NB215_219.out
        have hnc54 := NB219_215.out
        have hcz55_0 : w33.cell? ⟨gb215, 0, none⟩ = some (.slice Ao22 t211.length co22) := (blk_cell BK215.out 0).trans rfl
        have hfz55_0 := blk_frozen BK215.out 0
        go_wp2_with (first | ((with_reducible refine gate_callee (f := 19) rfl ?_); refine goesL_ (some 42) rfl rfl Try.func19 (by kernel_rfl) rfl #[.agg #[.slice Ao34 t220.length co34], .agg #[.slice Ao22 t211.length co22]] rfl (by (try simp only [List.map_toArray, List.map_cons, List.map_nil]); first | done | rfl | (simp only [List.length_drop, List.length_take]; rfl)) ?_; (with_reducible refine (laws_eqSums.calls k _ _ t220 _ _ t211 false _ ?side1 ?side2 ?side3 ?side4 A39.out).mono ?_); (case side1 => refine (Kd.R_reads' (e := 3) (base := w.heap.size) (ok := fun k_ => (((True ∧ some k_ ≠ (.slice Ao19 t208.length co19 : Value).ownBlock) ∧ some k_ ≠ (.slice Ao22 t211.length co22 : Value).ownBlock) ∧ some k_ ≠ (.slice Ao28 t216.length co28 : Value).ownBlock)) (n := t220.length) (c := co34) ?_).2.2; exact (by (with_reducible repeat (first | apply Kd.R_alloc | apply Kd.R_drewN | apply Kd.R_drew)); exact (Kd.R_mono (Kd.R_far (p := ⟨gb224, 0, none⟩) (Kd.R_types HO222.out BK224.out (by decide)) (fun _ hk => hk.2) (.slice Ao34 t220.length co34)) (fun _ h_ => h_.1)))); (case side2 => exact (Kd.R_reads' HO222.out).2.1); (case side3 => refine (Kd.R_reads' (e := 3) (base := w.heap.size) (ok := fun k_ => (((True ∧ some k_ ≠ (.slice Ao19 t208.length co19 : Value).ownBlock) ∧ some k_ ≠ (.slice Ao28 t216.length co28 : Value).ownBlock) ∧ some k_ ≠ (.slice Ao34 t220.length co34 : Value).ownBlock)) (n := t211.length) (c := co22) ?_).2.2; exact (by (with_reducible repeat (first | apply Kd.R_alloc | apply Kd.R_drewN | apply Kd.R_drew)); exact (Kd.R_mono (Kd.R_far (p := ⟨gb224, 0, none⟩) (Kd.R_types HO213.out BK224.out (by decide)) (fun _ hk => hk.2) (.slice Ao34 t220.length co34)) (fun _ h_ => h_.1)))); (case side4 => exact (Kd.R_reads' HO213.out).2.1); rintro e w56 ⟨rfl, hb⟩; refine ⟨_, rfl, ?_⟩; have n0_ := Aside0.mk (Kd.R_below (by (with_reducible repeat (first | apply Kd.R_alloc | apply Kd.R_drewN | apply Kd.R_drew)); exact (Kd.R_mono (Kd.R_far (p := ⟨gb224, 0, none⟩) (Kd.R_types HO210.out BK224.out (by decide)) (fun _ hk => hk.2) (.slice Ao34 t220.length co34)) (fun _ h_ => h_.1))) hb); have n1_ := Aside0.mk (Kd.R_below (by (with_reducible repeat (first | apply Kd.R_alloc | apply Kd.R_drewN | apply Kd.R_drew)); exact (Kd.R_mono (Kd.R_far (p := ⟨gb224, 0, none⟩) (Kd.R_types HO213.out BK224.out (by decide)) (fun _ hk => hk.2) (.slice Ao34 t220.length co34)) (fun _ h_ => h_.1))) hb); have n2_ := Aside0.mk (Kd.R_below (by (with_reducible repeat (first | apply Kd.R_alloc | apply Kd.R_drewN | apply Kd.R_drew)); exact (Kd.R_mono (Kd.R_far (p := ⟨gb224, 0, none⟩) (Kd.R_types HO218.out BK224.out (by decide)) (fun _ hk => hk.2) (.slice Ao34 t220.length co34)) (fun _ h_ => h_.1))) hb); have n3_ := Aside0.mk (Kd.R_below (by (with_reducible repeat (first | apply Kd.R_alloc | apply Kd.R_drewN | apply Kd.R_drew)); exact (Kd.R_mono (Kd.R_far (p := ⟨gb224, 0, none⟩) (Kd.R_types HO222.out BK224.out (by decide)) (fun _ hk => hk.2) (.slice Ao34 t220.length co34)) (fun _ h_ => h_.1))) hb); have n4_ := Aside0.mk (blk_below (g := gb206) (o := .cells #[.slice A0_0 l0_0.length c0_0] 24 (0, 0)) (by (with_reducible repeat (first | refine blk_drewN ?_ _ | refine blk_drew ?_ | refine blk_alloc ?_ _)); refine blk_far ?_ NB206_224.out _; (with_reducible repeat (first | refine blk_drewN ?_ _ | refine blk_drew ?_ | refine blk_alloc ?_ _)); exact BK206.out) hb); have n5_ := Aside0.mk (blk_below (g := gb215) (o := .cells #[.slice Ao22 t211.length co22] 27 (0, 0)) (by (with_reducible repeat (first | refine blk_drewN ?_ _ | refine blk_drew ?_ | refine blk_alloc ?_ _)); refine blk_far ?_ NB215_224.out _; (with_reducible repeat (first | refine blk_drewN ?_ _ | refine blk_drew ?_ | refine blk_alloc ?_ _)); exact BK215.out) hb); have n6_ := Aside0.mk (blk_below (g := gb219) (o := .cells #[.slice Ao28 t216.length co28] 27 (0, 0)) (by (with_reducible repeat (first | refine blk_drewN ?_ _ | refine blk_drew ?_ | refine blk_alloc ?_ _)); refine blk_far ?_ NB219_224.out _; (with_reducible repeat (first | refine blk_drewN ?_ _ | refine blk_drew ?_ | refine blk_alloc ?_ _)); exact BK219.out) hb); have n7_ := Aside0.mk (blk_below (g := gb224) (o := .cells #[.slice Ao34 t220.length co34] 27 (0, 0)) (by (with_reducible repeat (first | refine blk_drewN ?_ _ | refine blk_drew ?_ | refine blk_alloc ?_ _)); refine blk_put (cs := #[.slice none 0 0]) ?_ 0 _ rfl; (with_reducible repeat (first | refine blk_drewN ?_ _ | refine blk_drew ?_ | refine blk_alloc ?_ _)); exact BK224.out) hb); have n8_ := Aside0.mk (below_step (by repeat (first | (with_reducible first | exact HB.out | apply below_alloc | apply pw_below_drewN | apply below_drew1 | refine below_set ?_ GE206.out | refine below_set ?_ GE215.out | refine below_set ?_ GE219.out | refine below_set ?_ GE224.out) | exact HB.out)) hb); clear HO210; clear HO213; clear HO218; clear HO222; clear BK206; clear BK215; clear BK219; clear BK224; clear HB; have HO210 := n0_; have HO213 := n1_; have HO218 := n2_; have HO222 := n3_; have BK206 := n4_; have BK215 := n5_; have BK219 := n6_; have BK224 := n7_; have HB := n8_; clear n0_ n1_ n2_ n3_ n4_ n5_ n6_ n7_ n8_; (try clear hb); (try clear hb2); (try clear hk); (try clear hi)))
        go_meet
        case rel => exact ⟨_, (true), (by first | rfl | (simp; done) | (simp [*]; done)), H', ⟨by first | omega | exact Nat.le_refl _⟩, ⟨by (with_reducible repeat (first | apply Kd.R_alloc | apply Kd.R_drewN | apply Kd.R_drew)); exact Kd.R_mono HO213.out (fun _ hk => ⟨hk.1.2, hk.2⟩)⟩, ⟨by (with_reducible repeat (first | apply Kd.R_alloc | apply Kd.R_drewN | apply Kd.R_drew)); exact Kd.R_mono HO218.out (fun _ hk => ⟨hk.1.2, hk.2⟩)⟩, ⟨by (with_reducible repeat (first | apply Kd.R_alloc | apply Kd.R_drewN | apply Kd.R_drew)); exact Kd.R_mono HO222.out (fun _ hk => ⟨hk.1.2, hk.2⟩)⟩, ⟨by (with_reducible repeat (first | refine blk_drewN ?_ _ | refine blk_drew ?_ | refine blk_alloc ?_ _)); exact BK206.out⟩, ⟨by (with_reducible repeat (first | refine blk_drewN ?_ _ | refine blk_drew ?_ | refine blk_alloc ?_ _)); exact BK215.out⟩, ⟨by (with_reducible repeat (first | refine blk_drewN ?_ _ | refine blk_drew ?_ | refine blk_alloc ?_ _)); exact BK219.out⟩, ⟨by (with_reducible repeat (first | refine blk_drewN ?_ _ | refine blk_drew ?_ | refine blk_alloc ?_ _)); exact BK224.out⟩, ⟨by repeat (first | (with_reducible first | exact HB.out | apply below_alloc | apply pw_below_drewN | apply below_drew1 | refine below_set ?_ GE206.out | refine below_set ?_ GE215.out | refine below_set ?_ GE219.out | refine below_set ?_ GE224.out) | exact HB.out)⟩⟩
    case rest =>
      clear HC13
      try clear c1
      try clear c2
      try clear p2
      try clear c3
      try clear c4
      try clear c5
      try clear c5b0
      try clear c8
      try clear c15
      try clear c17
      try clear c19
      try clear c23
      try clear c29
      try clear c30
      try clear c32
      try clear c33
      try clear c35
      try clear c36
      try clear c37
      try clear c40
      try clear c41
      try clear c42
      try clear c43
      try clear c45
      try clear c46
      try clear c49
      try clear c50
      try clear c51
      try clear c53
      try clear c54
      try clear hcz15_0
      try clear hcz17_0
      try clear hcz24_0
      try clear hcz25_0
      try clear hcz31_0
      try clear hcz38_0
      try clear hcz44_0
      try clear hcz47_0
      try clear hcz52_0
      try clear hcz55_0
      try clear hcz7_0
      try clear hfz15_0
      try clear hfz17_0
      try clear hfz24_0
      try clear hfz25_0
      try clear hfz31_0
      try clear hfz38_0
      try clear hfz44_0
      try clear hfz47_0
      try clear hfz52_0
      try clear hfz55_0
      try clear hfz7_0
      obtain ⟨kq, x48_12, rfl, HA, HJ12, HO_216000, HO_220000, HO_225000, BK206, BK215, BK219, BK224, HB⟩ := hcut
      cases kq with
      | zero => exact absurd HA.out (by simp [laws_FnExactAddAt.j0])
      | succ kj12 =>
        have H := HA.out
        clear HA
        simp only [laws_FnExactAddAt.j0] at H
        by_cases c57 : x48_12 = true
        · subst c57
          have H1 : (some false) = some r := by rw [if_pos rfl] at H; exact H
          clear H
          have H := H1
          clear H1
          obtain rfl := Option.some.inj H
          go_wp2
          go_ret
          exact ⟨by first | rfl | (simp [errW_none, errW_some] <;> rfl) | (simp [*, errW_none, errW_some] <;> rfl), by repeat (first | (with_reducible first | exact HB.out | apply below_alloc | apply pw_below_drewN | apply below_drew1 | refine below_set ?_ GE206.out | refine below_set ?_ GE215.out | refine below_set ?_ GE219.out | refine below_set ?_ GE224.out) | exact HB.out)⟩
        · replace c57 := Bool.eq_false_iff.mpr c57
          subst c57
          have H1 : ((laws_toSums.f kj12 l0_0).bind fun t226 => ((laws_eqSums.f kj12 t216 t226).bind fun t229 => (if t229 = true then ((laws_markSums.f kj12 t216 1).bind fun bt230 => (if bt230.1 < 0 then (laws_FnExactAddAt.j1 kj12 a1 a2 t214 true l0_0 t211 t220) else ((laws_eqSums.f kj12 t220 t211).bind fun t232 => (if t232 = true then (laws_FnExactAddAt.j1 kj12 a1 a2 t214 (t223 != t214) l0_0 t211 t220) else (laws_FnExactAddAt.j1 kj12 a1 a2 t214 true l0_0 t211 t220))))) else (some false)))) = some r := by rw [if_neg (show ¬ (false = true) by decide)] at H; exact H
          clear H
          have H := H1
          clear H1
          replace H := Option.bind_eq_some_iff.mp H
          obtain ⟨t226, A580, H⟩ := H
          replace H : ((laws_eqSums.f kj12 t216 t226).bind fun t229 => (if t229 = true then ((laws_markSums.f kj12 t216 1).bind fun bt230 => (if bt230.1 < 0 then (laws_FnExactAddAt.j1 kj12 a1 a2 t214 true l0_0 t211 t220) else ((laws_eqSums.f kj12 t220 t211).bind fun t232 => (if t232 = true then (laws_FnExactAddAt.j1 kj12 a1 a2 t214 (t223 != t214) l0_0 t211 t220) else (laws_FnExactAddAt.j1 kj12 a1 a2 t214 true l0_0 t211 t220))))) else (some false))) = some r := H
          have A58 := Aside0.mk A580
          clear A580
          replace H := Option.bind_eq_some_iff.mp H
          obtain ⟨t229, A590, H⟩ := H
          replace H : (if t229 = true then ((laws_markSums.f kj12 t216 1).bind fun bt230 => (if bt230.1 < 0 then (laws_FnExactAddAt.j1 kj12 a1 a2 t214 true l0_0 t211 t220) else ((laws_eqSums.f kj12 t220 t211).bind fun t232 => (if t232 = true then (laws_FnExactAddAt.j1 kj12 a1 a2 t214 (t223 != t214) l0_0 t211 t220) else (laws_FnExactAddAt.j1 kj12 a1 a2 t214 true l0_0 t211 t220))))) else (some false)) = some r := H
          have A59 := Aside0.mk A590
          clear A590
          by_cases c60 : t229 = true
          · subst c60
            have H1 : ((laws_markSums.f kj12 t216 1).bind fun bt230 => (if bt230.1 < 0 then (laws_FnExactAddAt.j1 kj12 a1 a2 t214 true l0_0 t211 t220) else ((laws_eqSums.f kj12 t220 t211).bind fun t232 => (if t232 = true then (laws_FnExactAddAt.j1 kj12 a1 a2 t214 (t223 != t214) l0_0 t211 t220) else (laws_FnExactAddAt.j1 kj12 a1 a2 t214 true l0_0 t211 t220))))) = some r := by rw [if_pos rfl] at H; exact H
            clear H
            have H := H1
            clear H1
            replace H := Option.bind_eq_some_iff.mp H
            obtain ⟨⟨t230, t231⟩, A610, H⟩ := H
            replace H : (if t230 < 0 then (laws_FnExactAddAt.j1 kj12 a1 a2 t214 true l0_0 t211 t220) else ((laws_eqSums.f kj12 t220 t211).bind fun t232 => (if t232 = true then (laws_FnExactAddAt.j1 kj12 a1 a2 t214 (t223 != t214) l0_0 t211 t220) else (laws_FnExactAddAt.j1 kj12 a1 a2 t214 true l0_0 t211 t220)))) = some r := H
            have A61 := Aside0.mk A610
            clear A610
            have HC62 := Aside0.mk H
            clear H
            try go_wp2
            have n0_ := Aside0.mk (Kd.R_drew HO_216000.out)
            have n1_ := Aside0.mk (Kd.R_drew HO_220000.out)
            have n2_ := Aside0.mk (Kd.R_drew HO_225000.out)
            have n3_ := Aside0.mk (blk_drew BK206.out)
            have n4_ := Aside0.mk (blk_drew BK215.out)
            have n5_ := Aside0.mk (blk_drew BK219.out)
            have n6_ := Aside0.mk (blk_drew BK224.out)
            have n7_ := Aside0.mk (below_drew1 HB.out)
            clear HO_216000
            clear HO_220000
            clear HO_225000
            clear BK206
            clear BK215
            clear BK219
            clear BK224
            clear HB
            have HO_216000 := n0_
            have HO_220000 := n1_
            have HO_225000 := n2_
            have BK206 := n3_
            have BK215 := n4_
            have BK219 := n5_
            have BK224 := n6_
            have HB := n7_
            clear n0_ n1_ n2_ n3_ n4_ n5_ n6_ n7_
            refine start_ (n := 5) (S := fun w' => w'.cell? ⟨gb219, 0, none⟩ = some (.slice Ao28 t216.length co28) ∧ w'.cell? ⟨gb206, 0, none⟩ = some (.slice A0_0 l0_0.length c0_0)) (ds := []) #[false, false, false, false, false] (by kernel_rfl) rfl rfl ⟨(blk_cell BK219.out 0).trans rfl, (blk_cell BK206.out 0).trans rfl⟩ (fun hHeld => ?_)
            generalize wc.drew = w63 at HO_216000 HO_220000 HO_225000 BK206 BK215 BK219 BK224 HB hHeld ⊢
            refine take_ (i := 0) (N := some 49) (v := ?_) (a' := ?_) #[true, false, false, false, false] rfl rfl (by kernel_rfl) (fun _ _ _ h => h) (Or.inl ⟨by rfl, ?_⟩) hHeld ?_ ?_
            rotate_left
            · rintro w' ⟨s0, s1⟩
              go_simp
              with_reducible rfl
            rotate_left
            · simp only [Act.put, List.setIfInBounds_toArray, List.set_cons_zero, List.set_cons_succ, i64_w, i32_w]
              rfl
            refine take_ (i := 1) (N := some 50) (v := ?_) (a' := ?_) #[true, true, false, false, false] rfl rfl (by kernel_rfl) (fun _ _ _ h => h) (Or.inl ⟨by rfl, ?_⟩) hHeld ?_ ?_
            rotate_left
            · rintro w' ⟨s0, s1⟩
              go_simp
              with_reducible rfl
            rotate_left
            · simp only [Act.put, List.setIfInBounds_toArray, List.set_cons_zero, List.set_cons_succ, i64_w, i32_w]
              rfl
            refine one_ (i := 2) (N := some 51) #[true, true, true, false, false] rfl rfl (by kernel_rfl) (by decide) (fun K hK => ?_)
            refine goes_ Try.func17 (by kernel_rfl) rfl #[.agg #[.slice A0_0 l0_0.length c0_0]] (by rfl) rfl rfl (by (try simp only [List.map_toArray, List.map_cons, List.map_nil]); first | done | rfl | (simp only [List.length_drop, List.length_take]; rfl)) ?_
            with_reducible refine (laws_toSums.calls kj12 _ _ l0_0 t226 _ ?side1 ?side2 A58.out).mono ?_
            (case side1 => repeat (first | exact (Kd.C_below HR0_0.out HB.out) | (with_reducible refine Kd.C_alloc ?_ _) | (with_reducible refine Kd.C_drewN ?_ _) | (with_reducible refine Kd.C_drew ?_)))
            (case side2 => exact HC0_0.out)
            rintro e w64 ⟨v227, rfl, ho0, hb⟩
            refine ⟨_, rfl, ?_⟩
            have n0_ := Aside0.mk (Kd.R_elder' (by (with_reducible repeat (first | apply Kd.R_alloc | apply Kd.R_drewN | apply Kd.R_drew)); exact HO_216000.out) (Kd.R_base ho0) hb)
            have n1_ := Aside0.mk (Kd.R_elder' (by (with_reducible repeat (first | apply Kd.R_alloc | apply Kd.R_drewN | apply Kd.R_drew)); exact HO_220000.out) (Kd.R_base ho0) hb)
            have n2_ := Aside0.mk (Kd.R_elder' (by (with_reducible repeat (first | apply Kd.R_alloc | apply Kd.R_drewN | apply Kd.R_drew)); exact HO_225000.out) (Kd.R_base ho0) hb)
            have n3_ := Aside0.mk (Kd.R_lower (Kd.R_new' (Kd.R_new' (Kd.R_new' ho0 (Kd.R_lt (by (with_reducible repeat (first | apply Kd.R_alloc | apply Kd.R_drewN | apply Kd.R_drew)); exact HO_216000.out))) (Kd.R_lt (by (with_reducible repeat (first | apply Kd.R_alloc | apply Kd.R_drewN | apply Kd.R_drew)); exact HO_220000.out))) (Kd.R_lt (by (with_reducible repeat (first | apply Kd.R_alloc | apply Kd.R_drewN | apply Kd.R_drew)); exact HO_225000.out))) (below_size (by repeat (first | (with_reducible first | exact HB.out | apply below_alloc | apply pw_below_drewN | apply below_drew1 | refine below_set ?_ GE206.out | refine below_set ?_ GE215.out | refine below_set ?_ GE219.out | refine below_set ?_ GE224.out) | exact HB.out))))
            have n4_ := Aside0.mk (blk_below (g := gb206) (o := .cells #[.slice A0_0 l0_0.length c0_0] 24 (0, 0)) (by (with_reducible repeat (first | refine blk_drewN ?_ _ | refine blk_drew ?_ | refine blk_alloc ?_ _)); exact BK206.out) hb)
            have n5_ := Aside0.mk (blk_below (g := gb215) (o := .cells #[.slice Ao22 t211.length co22] 27 (0, 0)) (by (with_reducible repeat (first | refine blk_drewN ?_ _ | refine blk_drew ?_ | refine blk_alloc ?_ _)); exact BK215.out) hb)
            have n6_ := Aside0.mk (blk_below (g := gb219) (o := .cells #[.slice Ao28 t216.length co28] 27 (0, 0)) (by (with_reducible repeat (first | refine blk_drewN ?_ _ | refine blk_drew ?_ | refine blk_alloc ?_ _)); exact BK219.out) hb)
            have n7_ := Aside0.mk (blk_below (g := gb224) (o := .cells #[.slice Ao34 t220.length co34] 27 (0, 0)) (by (with_reducible repeat (first | refine blk_drewN ?_ _ | refine blk_drew ?_ | refine blk_alloc ?_ _)); exact BK224.out) hb)
            have n8_ := Aside0.mk (below_step (by repeat (first | (with_reducible first | exact HB.out | apply below_alloc | apply pw_below_drewN | apply below_drew1 | refine below_set ?_ GE206.out | refine below_set ?_ GE215.out | refine below_set ?_ GE219.out | refine below_set ?_ GE224.out) | exact HB.out)) hb)
            clear HO_216000
            clear HO_220000
            clear HO_225000
            clear BK206
            clear BK215
            clear BK219
            clear BK224
            clear HB
            have HO_216000 := n0_
            have HO_220000 := n1_
            have HO_225000 := n2_
            have HO228 := n3_
            have BK206 := n4_
            have BK215 := n5_
            have BK219 := n6_
            have BK224 := n7_
            have HB := n8_
            clear n0_ n1_ n2_ n3_ n4_ n5_ n6_ n7_ n8_
            (try clear hb)
            (try clear hb2)
            (try clear hk)
            (try clear hi)
            (try clear ho0)
            obtain ⟨Ao65, co65, eo65⟩ := Kd.R_slice HO228.out
            (first | subst eo65 | (injection eo65 with f1_ f2_ f3_; have f4_ := f1_.symm; have f5_ := f3_.symm; clear f1_ f2_ f3_; subst f4_; subst f5_))
            refine hK.out _ _ ⟨(blk_cell BK219.out 0).trans rfl, (blk_cell BK206.out 0).trans rfl⟩ (fun hHeld => ?_)
            clear hK K
            refine norm_ (a' := ?_) ?_ ?_
            rotate_left
            · show Act.put _ (some 51) _ = _
              simp only [Act.put, List.setIfInBounds_toArray, List.set_cons_zero, List.set_cons_succ, i64_w, i32_w]
              rfl
            refine one_ (i := 3) (N := some 52) #[true, true, true, true, false] rfl rfl (by kernel_rfl) (by decide) (fun K hK => ?_)
            refine goes_ Try.func19 (by kernel_rfl) rfl #[.agg #[.slice Ao28 t216.length co28], .agg #[.slice Ao65 t226.length co65]] (by rfl) rfl rfl (by (try simp only [List.map_toArray, List.map_cons, List.map_nil]); first | done | rfl | (simp only [List.length_drop, List.length_take]; rfl)) ?_
            with_reducible refine (laws_eqSums.calls kj12 _ _ t216 _ _ t226 true _ ?side1 ?side2 ?side3 ?side4 A59.out).mono ?_
            (case side1 => repeat (first | exact (Kd.R_reads' HO_220000.out).2.2 | (with_reducible refine Kd.C_alloc ?_ _) | (with_reducible refine Kd.C_drewN ?_ _) | (with_reducible refine Kd.C_drew ?_)))
            (case side2 => exact (Kd.R_reads' HO_220000.out).2.1)
            (case side3 => repeat (first | exact (Kd.R_reads' HO228.out).2.2 | (with_reducible refine Kd.C_alloc ?_ _) | (with_reducible refine Kd.C_drewN ?_ _) | (with_reducible refine Kd.C_drew ?_)))
            (case side4 => exact (Kd.R_reads' HO228.out).2.1)
            rintro e w66 ⟨rfl, hb⟩
            refine ⟨_, rfl, ?_⟩
            have n0_ := Aside0.mk (Kd.R_below (by (with_reducible repeat (first | apply Kd.R_alloc | apply Kd.R_drewN | apply Kd.R_drew)); exact HO_216000.out) hb)
            have n1_ := Aside0.mk (Kd.R_below (by (with_reducible repeat (first | apply Kd.R_alloc | apply Kd.R_drewN | apply Kd.R_drew)); exact HO_220000.out) hb)
            have n2_ := Aside0.mk (Kd.R_below (by (with_reducible repeat (first | apply Kd.R_alloc | apply Kd.R_drewN | apply Kd.R_drew)); exact HO_225000.out) hb)
            have n3_ := Aside0.mk (Kd.R_below (by (with_reducible repeat (first | apply Kd.R_alloc | apply Kd.R_drewN | apply Kd.R_drew)); exact HO228.out) hb)
            have n4_ := Aside0.mk (blk_below (g := gb206) (o := .cells #[.slice A0_0 l0_0.length c0_0] 24 (0, 0)) (by (with_reducible repeat (first | refine blk_drewN ?_ _ | refine blk_drew ?_ | refine blk_alloc ?_ _)); exact BK206.out) hb)
            have n5_ := Aside0.mk (blk_below (g := gb215) (o := .cells #[.slice Ao22 t211.length co22] 27 (0, 0)) (by (with_reducible repeat (first | refine blk_drewN ?_ _ | refine blk_drew ?_ | refine blk_alloc ?_ _)); exact BK215.out) hb)
            have n6_ := Aside0.mk (blk_below (g := gb219) (o := .cells #[.slice Ao28 t216.length co28] 27 (0, 0)) (by (with_reducible repeat (first | refine blk_drewN ?_ _ | refine blk_drew ?_ | refine blk_alloc ?_ _)); exact BK219.out) hb)
            have n7_ := Aside0.mk (blk_below (g := gb224) (o := .cells #[.slice Ao34 t220.length co34] 27 (0, 0)) (by (with_reducible repeat (first | refine blk_drewN ?_ _ | refine blk_drew ?_ | refine blk_alloc ?_ _)); exact BK224.out) hb)
            have n8_ := Aside0.mk (below_step (by repeat (first | (with_reducible first | exact HB.out | apply below_alloc | apply pw_below_drewN | apply below_drew1 | refine below_set ?_ GE206.out | refine below_set ?_ GE215.out | refine below_set ?_ GE219.out | refine below_set ?_ GE224.out) | exact HB.out)) hb)
            clear HO_216000
            clear HO_220000
            clear HO_225000
            clear HO228
            clear BK206
            clear BK215
            clear BK219
            clear BK224
            clear HB
            have HO_216000 := n0_
            have HO_220000 := n1_
            have HO_225000 := n2_
            have HO228 := n3_
            have BK206 := n4_
            have BK215 := n5_
            have BK219 := n6_
            have BK224 := n7_
            have HB := n8_
            clear n0_ n1_ n2_ n3_ n4_ n5_ n6_ n7_ n8_
            (try clear hb)
            (try clear hb2)
            (try clear hk)
            (try clear hi)
            refine hK.out _ _ ⟨(blk_cell BK219.out 0).trans rfl, (blk_cell BK206.out 0).trans rfl⟩ (fun hHeld => ?_)
            clear hK K
            refine norm_ (a' := ?_) ?_ ?_
            rotate_left
            · show Act.put _ (some 52) _ = _
              simp only [Act.put, List.setIfInBounds_toArray, List.set_cons_zero, List.set_cons_succ, i64_w, i32_w]
              rfl
            refine pure_ (i := 4) (N := some 53) (v := ?_) (a' := ?_) #[true, true, true, true, true] rfl rfl (by kernel_rfl) (fun _ _ _ h => h) (Or.inl ⟨by rfl, ?_⟩) ?_ ?_
            rotate_left
            · intro w'
              go_simp
              with_reducible rfl
            rotate_left
            · simp only [Act.put, List.setIfInBounds_toArray, List.set_cons_zero, List.set_cons_succ, i64_w, i32_w]
              rfl
            refine done_ (by kernel_rfl) ?_
            have hnb67 := NB219_206.out
            have hnc67 := NB206_219.out
            have hnb68 := NB219_215.out
            have hnc68 := NB215_219.out
            have hnb69 := NB219_224.out
            have hnc69 := NB224_219.out
            have hcz70_0 : w66.cell? ⟨gb219, 0, none⟩ = some (.slice Ao28 t216.length co28) := (blk_cell BK219.out 0).trans rfl
            have hfz70_0 := blk_frozen BK219.out 0
            go_upto_region 14 with (first | ((with_reducible refine gate_callee (f := 27) rfl ?_); refine goesL_ (some 56) rfl rfl Try.func27 (by kernel_rfl) rfl #[.agg #[.slice Ao28 t216.length co28], .int .i64 1] rfl (by (try simp only [List.map_toArray, List.map_cons, List.map_nil]); first | done | rfl | (simp only [List.length_drop, List.length_take]; rfl)) ?_; (with_reducible refine (laws_markSums.calls kj12 (fun k_ => some k_ = (.slice Ao28 t216.length co28 : Value).ownBlock) (.slice Ao28 t216.length co28) t216 1 t230 t231 w _ ?side1 ?side2 A61.out).mono ?_); (case side1 => repeat (first | (with_reducible first | exact HB.out | apply below_alloc | apply pw_below_drewN | apply below_drew1 | refine below_set ?_ GE206.out | refine below_set ?_ GE215.out | refine below_set ?_ GE219.out | refine below_set ?_ GE224.out) | exact HB.out)); (case side2 => exact Kd.R_tight rfl HO_220000.out); rintro e w71 ⟨rfl, hy0, hb, hkp⟩; refine ⟨_, rfl, ?_⟩; have n0_ := Aside0.mk (Kd.R_mono (ok' := fun k_ => some k_ ≠ (.slice Ao28 t216.length co28 : Value).ownBlock ∧ some k_ ≠ (.slice Ao34 t220.length co34 : Value).ownBlock ∧ some k_ ≠ (.slice Ao65 t226.length co65 : Value).ownBlock) (Kd.R_keptB (HO_216000.out) hkp (fun k_ hk_ hs_ => (hk_.1.1) hs_)) (fun k_ hk_ => ⟨hk_.1.1.1, hk_.1.1.2, hk_.1.2⟩)); have n1_ := Aside0.mk (Kd.R_reok rfl hy0 (fun k_ e_ => HO_220000.out.1 k_ e_)); have n2_ := Aside0.mk (Kd.R_mono (ok' := fun k_ => some k_ ≠ (.slice Ao22 t211.length co22 : Value).ownBlock ∧ some k_ ≠ (.slice Ao28 t216.length co28 : Value).ownBlock ∧ some k_ ≠ (.slice Ao65 t226.length co65 : Value).ownBlock) (Kd.R_keptB (HO_225000.out) hkp (fun k_ hk_ hs_ => (hk_.1.2) hs_)) (fun k_ hk_ => ⟨hk_.1.1.1, hk_.1.1.2, hk_.1.2⟩)); have n3_ := Aside0.mk (blk_kept (by (with_reducible repeat (first | refine blk_drewN ?_ _ | refine blk_drew ?_ | refine blk_alloc ?_ _)); exact BK206.out) hkp (fun hs_ => (fun e_ => (Kd.R_ne HO_220000.out BK206.out (by decide)) e_) hs_)); have n4_ := Aside0.mk (blk_kept (by (with_reducible repeat (first | refine blk_drewN ?_ _ | refine blk_drew ?_ | refine blk_alloc ?_ _)); exact BK215.out) hkp (fun hs_ => (fun e_ => (Kd.R_ne HO_220000.out BK215.out (by decide)) e_) hs_)); have n5_ := Aside0.mk (blk_kept (by (with_reducible repeat (first | refine blk_drewN ?_ _ | refine blk_drew ?_ | refine blk_alloc ?_ _)); exact BK219.out) hkp (fun hs_ => (fun e_ => (Kd.R_ne HO_220000.out BK219.out (by decide)) e_) hs_)); have n6_ := Aside0.mk (blk_kept (by (with_reducible repeat (first | refine blk_drewN ?_ _ | refine blk_drew ?_ | refine blk_alloc ?_ _)); exact BK224.out) hkp (fun hs_ => (fun e_ => (Kd.R_ne HO_220000.out BK224.out (by decide)) e_) hs_)); have n7_ := Aside0.mk (Kd.R_mono (ok' := fun k_ => some k_ ≠ (.slice Ao22 t211.length co22 : Value).ownBlock ∧ some k_ ≠ (.slice Ao28 t216.length co28 : Value).ownBlock ∧ some k_ ≠ (.slice Ao34 t220.length co34 : Value).ownBlock) (Kd.R_keptB (HO228.out) hkp (fun k_ hk_ hs_ => (hk_.1.2) hs_)) (fun k_ hk_ => ⟨hk_.1.1.1.2, hk_.1.1.2, hk_.1.2⟩)); have n8_ := Aside0.mk (hb); clear HO_216000; clear HO_220000; clear HO_225000; clear BK206; clear BK215; clear BK219; clear BK224; clear HO228; clear HB; have HO_216000 := n0_; have HO_220000 := n1_; have HO_225000 := n2_; have BK206 := n3_; have BK215 := n4_; have BK219 := n5_; have BK224 := n6_; have HO228 := n7_; have HB := n8_; clear n0_ n1_ n2_ n3_ n4_ n5_ n6_ n7_ n8_; (try clear hb); (try clear hkp); (try clear hy0)))
            (try simp only [Act.put, List.setIfInBounds_toArray, List.set_cons_zero, List.set_cons_succ])
            go_cut [69] (fun v69 wc => ∃ (kq : Nat) (x69_61 : Bool), v69 = .bool x69_61 ∧ Aside0 (laws_FnExactAddAt.j1 kq a1 a2 t214 x69_61 l0_0 t211 t220 = some r) ∧ Aside0 (kq ≤ kj12) ∧ Aside0 (Kd.R (Kd.int .i64) 3 wc w.heap.size (fun k_ => some k_ ≠ ((.slice Ao28 t216.length co28) : Value).ownBlock ∧ some k_ ≠ ((.slice Ao34 t220.length co34) : Value).ownBlock) (.slice Ao22 t211.length co22) t211) ∧ Aside0 (Kd.R (Kd.int .i64) 3 wc w.heap.size (fun k_ => some k_ ≠ ((.slice Ao22 t211.length co22) : Value).ownBlock ∧ some k_ ≠ ((.slice Ao34 t220.length co34) : Value).ownBlock) (.slice Ao28 t216.length co28) t231) ∧ Aside0 (Kd.R (Kd.int .i64) 3 wc w.heap.size (fun k_ => some k_ ≠ ((.slice Ao22 t211.length co22) : Value).ownBlock ∧ some k_ ≠ ((.slice Ao28 t216.length co28) : Value).ownBlock) (.slice Ao34 t220.length co34) t220) ∧ Aside0 (wc.heap[gb206]? = some (.cells #[(.slice A0_0 l0_0.length c0_0)] 24 (0, 0))) ∧ Aside0 (wc.heap[gb215]? = some (.cells #[(.slice Ao22 t211.length co22)] 27 (0, 0))) ∧ Aside0 (wc.heap[gb219]? = some (.cells #[(.slice Ao28 t216.length co28)] 27 (0, 0))) ∧ Aside0 (wc.heap[gb224]? = some (.cells #[(.slice Ao34 t220.length co34)] 27 (0, 0))) ∧ Aside0 (Below w.heap.size w wc))
            case first =>
              have H := HC62.out
              clear HC62
              by_cases c72 : t230 < 0
              · rw [if_pos c72] at H
                have c72b0 : decide (t230 < 0) = true := decide_eq_true c72
                clear c72
                (first | rw [c72b0] | (simp only [i64_w, i32_w]; rw [c72b0]) | skip)
                have H' := Aside0.mk H
                clear H
                go_wp2
                go_meet
                case rel => exact ⟨_, (true), (by first | rfl | (simp; done) | (simp [*]; done)), H', ⟨by have := HJ12.out; first | omega | exact Nat.le_refl _⟩, ⟨by (with_reducible repeat (first | apply Kd.R_alloc | apply Kd.R_drewN | apply Kd.R_drew)); exact Kd.R_mono HO_216000.out (fun _ hk => ⟨hk.1, hk.2.1⟩)⟩, ⟨by (with_reducible repeat (first | apply Kd.R_alloc | apply Kd.R_drewN | apply Kd.R_drew)); exact Kd.R_mono HO_220000.out (fun _ hk => ⟨hk.1.1, hk.1.2⟩)⟩, ⟨by (with_reducible repeat (first | apply Kd.R_alloc | apply Kd.R_drewN | apply Kd.R_drew)); exact Kd.R_mono HO_225000.out (fun _ hk => ⟨hk.1, hk.2.1⟩)⟩, ⟨by (with_reducible repeat (first | refine blk_drewN ?_ _ | refine blk_drew ?_ | refine blk_alloc ?_ _)); exact BK206.out⟩, ⟨by (with_reducible repeat (first | refine blk_drewN ?_ _ | refine blk_drew ?_ | refine blk_alloc ?_ _)); exact BK215.out⟩, ⟨by (with_reducible repeat (first | refine blk_drewN ?_ _ | refine blk_drew ?_ | refine blk_alloc ?_ _)); exact BK219.out⟩, ⟨by (with_reducible repeat (first | refine blk_drewN ?_ _ | refine blk_drew ?_ | refine blk_alloc ?_ _)); exact BK224.out⟩, ⟨by repeat (first | (with_reducible first | exact HB.out | apply below_alloc | apply pw_below_drewN | apply below_drew1 | refine below_set ?_ GE206.out | refine below_set ?_ GE215.out | refine below_set ?_ GE219.out | refine below_set ?_ GE224.out) | exact HB.out)⟩⟩
              · rw [if_neg c72] at H
                have c72b0 : decide (t230 < 0) = false := decide_eq_false c72
                clear c72
                (first | rw [c72b0] | (simp only [i64_w, i32_w]; rw [c72b0]) | skip)
                replace H := Option.bind_eq_some_iff.mp H
                obtain ⟨t232, A730, H⟩ := H
                replace H : (if t232 = true then (laws_FnExactAddAt.j1 kj12 a1 a2 t214 (t223 != t214) l0_0 t211 t220) else (laws_FnExactAddAt.j1 kj12 a1 a2 t214 true l0_0 t211 t220)) = some r := H
                have A73 := Aside0.mk A730
                clear A730
                by_cases c74 : t232 = true
                · subst c74
                  have H1 : (laws_FnExactAddAt.j1 kj12 a1 a2 t214 (t223 != t214) l0_0 t211 t220) = some r := by rw [if_pos rfl] at H; exact H
                  clear H
                  have H := H1
                  clear H1
                  have H' := Aside0.mk H
                  clear H
                  have hnb75 := NB224_206.out
                  have hnc75 := NB206_224.out
                  have hnb76 := NB224_215.out
                  have hnc76 := NB215_224.out
                  have hnb77 := NB224_219.out
                  have hnc77 := NB219_224.out
                  have hcz78_0 : w71.cell? ⟨gb224, 0, none⟩ = some (.slice Ao34 t220.length co34) := (blk_cell BK224.out 0).trans rfl
                  have hfz78_0 := blk_frozen BK224.out 0
                  have hnb79 := NB215_206.out
                  have hnc79 := NB206_215.out
                  have hnb80 := NB215_219.out
                  have hnc80 := NB219_215.out
                  have hcz81_0 : w71.cell? ⟨gb215, 0, none⟩ = some (.slice Ao22 t211.length co22) := (blk_cell BK215.out 0).trans rfl
                  have hfz81_0 := blk_frozen BK215.out 0
                  go_wp2_with (first | (go_at_call 19; (with_reducible refine (laws_eqSums.calls kj12 _ _ t220 _ _ t211 true _ ?side1 ?side2 ?side3 ?side4 A73.out).mono ?_); (case side1 => repeat (first | exact (Kd.R_reads' HO_225000.out).2.2 | (with_reducible refine Kd.C_alloc ?_ _) | (with_reducible refine Kd.C_drewN ?_ _) | (with_reducible refine Kd.C_drew ?_))); (case side2 => exact (Kd.R_reads' HO_225000.out).2.1); (case side3 => repeat (first | exact (Kd.R_reads' HO_216000.out).2.2 | (with_reducible refine Kd.C_alloc ?_ _) | (with_reducible refine Kd.C_drewN ?_ _) | (with_reducible refine Kd.C_drew ?_))); (case side4 => exact (Kd.R_reads' HO_216000.out).2.1); rintro e w82 ⟨rfl, hb⟩; have n0_ := Aside0.mk (Kd.R_below (by (with_reducible repeat (first | apply Kd.R_alloc | apply Kd.R_drewN | apply Kd.R_drew)); exact HO_216000.out) hb); have n1_ := Aside0.mk (Kd.R_below (by (with_reducible repeat (first | apply Kd.R_alloc | apply Kd.R_drewN | apply Kd.R_drew)); exact HO_220000.out) hb); have n2_ := Aside0.mk (Kd.R_below (by (with_reducible repeat (first | apply Kd.R_alloc | apply Kd.R_drewN | apply Kd.R_drew)); exact HO_225000.out) hb); have n3_ := Aside0.mk (Kd.R_below (by (with_reducible repeat (first | apply Kd.R_alloc | apply Kd.R_drewN | apply Kd.R_drew)); exact HO228.out) hb); have n4_ := Aside0.mk (blk_below (g := gb206) (o := .cells #[.slice A0_0 l0_0.length c0_0] 24 (0, 0)) (by (with_reducible repeat (first | refine blk_drewN ?_ _ | refine blk_drew ?_ | refine blk_alloc ?_ _)); exact BK206.out) hb); have n5_ := Aside0.mk (blk_below (g := gb215) (o := .cells #[.slice Ao22 t211.length co22] 27 (0, 0)) (by (with_reducible repeat (first | refine blk_drewN ?_ _ | refine blk_drew ?_ | refine blk_alloc ?_ _)); exact BK215.out) hb); have n6_ := Aside0.mk (blk_below (g := gb219) (o := .cells #[.slice Ao28 t216.length co28] 27 (0, 0)) (by (with_reducible repeat (first | refine blk_drewN ?_ _ | refine blk_drew ?_ | refine blk_alloc ?_ _)); exact BK219.out) hb); have n7_ := Aside0.mk (blk_below (g := gb224) (o := .cells #[.slice Ao34 t220.length co34] 27 (0, 0)) (by (with_reducible repeat (first | refine blk_drewN ?_ _ | refine blk_drew ?_ | refine blk_alloc ?_ _)); exact BK224.out) hb); have n8_ := Aside0.mk (below_step (by repeat (first | (with_reducible first | exact HB.out | apply below_alloc | apply pw_below_drewN | apply below_drew1 | refine below_set ?_ GE206.out | refine below_set ?_ GE215.out | refine below_set ?_ GE219.out | refine below_set ?_ GE224.out) | exact HB.out)) hb); clear HO_216000; clear HO_220000; clear HO_225000; clear HO228; clear BK206; clear BK215; clear BK219; clear BK224; clear HB; have HO_216000 := n0_; have HO_220000 := n1_; have HO_225000 := n2_; have HO228 := n3_; have BK206 := n4_; have BK215 := n5_; have BK219 := n6_; have BK224 := n7_; have HB := n8_; clear n0_ n1_ n2_ n3_ n4_ n5_ n6_ n7_ n8_; (try clear hb); (try clear hb2); (try clear hk); (try clear hi)))
                  go_meet
                  case rel => exact ⟨_, ((t223 != t214)), (by first | rfl | (simp; done) | (simp [*]; done)), H', ⟨by have := HJ12.out; first | omega | exact Nat.le_refl _⟩, ⟨by (with_reducible repeat (first | apply Kd.R_alloc | apply Kd.R_drewN | apply Kd.R_drew)); exact Kd.R_mono HO_216000.out (fun _ hk => ⟨hk.1, hk.2.1⟩)⟩, ⟨by (with_reducible repeat (first | apply Kd.R_alloc | apply Kd.R_drewN | apply Kd.R_drew)); exact Kd.R_mono HO_220000.out (fun _ hk => ⟨hk.1.1, hk.1.2⟩)⟩, ⟨by (with_reducible repeat (first | apply Kd.R_alloc | apply Kd.R_drewN | apply Kd.R_drew)); exact Kd.R_mono HO_225000.out (fun _ hk => ⟨hk.1, hk.2.1⟩)⟩, ⟨by (with_reducible repeat (first | refine blk_drewN ?_ _ | refine blk_drew ?_ | refine blk_alloc ?_ _)); exact BK206.out⟩, ⟨by (with_reducible repeat (first | refine blk_drewN ?_ _ | refine blk_drew ?_ | refine blk_alloc ?_ _)); exact BK215.out⟩, ⟨by (with_reducible repeat (first | refine blk_drewN ?_ _ | refine blk_drew ?_ | refine blk_alloc ?_ _)); exact BK219.out⟩, ⟨by (with_reducible repeat (first | refine blk_drewN ?_ _ | refine blk_drew ?_ | refine blk_alloc ?_ _)); exact BK224.out⟩, ⟨by repeat (first | (with_reducible first | exact HB.out | apply below_alloc | apply pw_below_drewN | apply below_drew1 | refine below_set ?_ GE206.out | refine below_set ?_ GE215.out | refine below_set ?_ GE219.out | refine below_set ?_ GE224.out) | exact HB.out)⟩⟩
                · replace c74 := Bool.eq_false_iff.mpr c74
                  subst c74
                  have H1 : (laws_FnExactAddAt.j1 kj12 a1 a2 t214 true l0_0 t211 t220) = some r := by rw [if_neg (show ¬ (false = true) by decide)] at H; exact H
                  clear H
                  have H := H1
                  clear H1
                  have H' := Aside0.mk H
                  clear H
                  have hnb83 := NB224_206.out
                  have hnc83 := NB206_224.out
                  have hnb84 := NB224_215.out
                  have hnc84 := NB215_224.out
                  have hnb85 := NB224_219.out
                  have hnc85 := NB219_224.out
                  have hcz86_0 : w71.cell? ⟨gb224, 0, none⟩ = some (.slice Ao34 t220.length co34) := (blk_cell BK224.out 0).trans rfl
                  have hfz86_0 := blk_frozen BK224.out 0
                  have hnb87 := NB215_206.out
                  have hnc87 := NB206_215.out
                  have hnb88 := NB215_219.out
                  have hnc88 := NB219_215.out
                  have hcz89_0 : w71.cell? ⟨gb215, 0, none⟩ = some (.slice Ao22 t211.length co22) := (blk_cell BK215.out 0).trans rfl
                  have hfz89_0 := blk_frozen BK215.out 0
                  go_wp2_with (first | (go_at_call 19; (with_reducible refine (laws_eqSums.calls kj12 _ _ t220 _ _ t211 false _ ?side1 ?side2 ?side3 ?side4 A73.out).mono ?_); (case side1 => repeat (first | exact (Kd.R_reads' HO_225000.out).2.2 | (with_reducible refine Kd.C_alloc ?_ _) | (with_reducible refine Kd.C_drewN ?_ _) | (with_reducible refine Kd.C_drew ?_))); (case side2 => exact (Kd.R_reads' HO_225000.out).2.1); (case side3 => repeat (first | exact (Kd.R_reads' HO_216000.out).2.2 | (with_reducible refine Kd.C_alloc ?_ _) | (with_reducible refine Kd.C_drewN ?_ _) | (with_reducible refine Kd.C_drew ?_))); (case side4 => exact (Kd.R_reads' HO_216000.out).2.1); rintro e w90 ⟨rfl, hb⟩; have n0_ := Aside0.mk (Kd.R_below (by (with_reducible repeat (first | apply Kd.R_alloc | apply Kd.R_drewN | apply Kd.R_drew)); exact HO_216000.out) hb); have n1_ := Aside0.mk (Kd.R_below (by (with_reducible repeat (first | apply Kd.R_alloc | apply Kd.R_drewN | apply Kd.R_drew)); exact HO_220000.out) hb); have n2_ := Aside0.mk (Kd.R_below (by (with_reducible repeat (first | apply Kd.R_alloc | apply Kd.R_drewN | apply Kd.R_drew)); exact HO_225000.out) hb); have n3_ := Aside0.mk (Kd.R_below (by (with_reducible repeat (first | apply Kd.R_alloc | apply Kd.R_drewN | apply Kd.R_drew)); exact HO228.out) hb); have n4_ := Aside0.mk (blk_below (g := gb206) (o := .cells #[.slice A0_0 l0_0.length c0_0] 24 (0, 0)) (by (with_reducible repeat (first | refine blk_drewN ?_ _ | refine blk_drew ?_ | refine blk_alloc ?_ _)); exact BK206.out) hb); have n5_ := Aside0.mk (blk_below (g := gb215) (o := .cells #[.slice Ao22 t211.length co22] 27 (0, 0)) (by (with_reducible repeat (first | refine blk_drewN ?_ _ | refine blk_drew ?_ | refine blk_alloc ?_ _)); exact BK215.out) hb); have n6_ := Aside0.mk (blk_below (g := gb219) (o := .cells #[.slice Ao28 t216.length co28] 27 (0, 0)) (by (with_reducible repeat (first | refine blk_drewN ?_ _ | refine blk_drew ?_ | refine blk_alloc ?_ _)); exact BK219.out) hb); have n7_ := Aside0.mk (blk_below (g := gb224) (o := .cells #[.slice Ao34 t220.length co34] 27 (0, 0)) (by (with_reducible repeat (first | refine blk_drewN ?_ _ | refine blk_drew ?_ | refine blk_alloc ?_ _)); exact BK224.out) hb); have n8_ := Aside0.mk (below_step (by repeat (first | (with_reducible first | exact HB.out | apply below_alloc | apply pw_below_drewN | apply below_drew1 | refine below_set ?_ GE206.out | refine below_set ?_ GE215.out | refine below_set ?_ GE219.out | refine below_set ?_ GE224.out) | exact HB.out)) hb); clear HO_216000; clear HO_220000; clear HO_225000; clear HO228; clear BK206; clear BK215; clear BK219; clear BK224; clear HB; have HO_216000 := n0_; have HO_220000 := n1_; have HO_225000 := n2_; have HO228 := n3_; have BK206 := n4_; have BK215 := n5_; have BK219 := n6_; have BK224 := n7_; have HB := n8_; clear n0_ n1_ n2_ n3_ n4_ n5_ n6_ n7_ n8_; (try clear hb); (try clear hb2); (try clear hk); (try clear hi)))
                  go_meet
                  case rel => exact ⟨_, (true), (by first | rfl | (simp; done) | (simp [*]; done)), H', ⟨by have := HJ12.out; first | omega | exact Nat.le_refl _⟩, ⟨by (with_reducible repeat (first | apply Kd.R_alloc | apply Kd.R_drewN | apply Kd.R_drew)); exact Kd.R_mono HO_216000.out (fun _ hk => ⟨hk.1, hk.2.1⟩)⟩, ⟨by (with_reducible repeat (first | apply Kd.R_alloc | apply Kd.R_drewN | apply Kd.R_drew)); exact Kd.R_mono HO_220000.out (fun _ hk => ⟨hk.1.1, hk.1.2⟩)⟩, ⟨by (with_reducible repeat (first | apply Kd.R_alloc | apply Kd.R_drewN | apply Kd.R_drew)); exact Kd.R_mono HO_225000.out (fun _ hk => ⟨hk.1, hk.2.1⟩)⟩, ⟨by (with_reducible repeat (first | refine blk_drewN ?_ _ | refine blk_drew ?_ | refine blk_alloc ?_ _)); exact BK206.out⟩, ⟨by (with_reducible repeat (first | refine blk_drewN ?_ _ | refine blk_drew ?_ | refine blk_alloc ?_ _)); exact BK215.out⟩, ⟨by (with_reducible repeat (first | refine blk_drewN ?_ _ | refine blk_drew ?_ | refine blk_alloc ?_ _)); exact BK219.out⟩, ⟨by (with_reducible repeat (first | refine blk_drewN ?_ _ | refine blk_drew ?_ | refine blk_alloc ?_ _)); exact BK224.out⟩, ⟨by repeat (first | (with_reducible first | exact HB.out | apply below_alloc | apply pw_below_drewN | apply below_drew1 | refine below_set ?_ GE206.out | refine below_set ?_ GE215.out | refine below_set ?_ GE219.out | refine below_set ?_ GE224.out) | exact HB.out)⟩⟩
            case rest =>
              clear HC62
              try clear c1
              try clear c2
              try clear p2
              try clear c3
              try clear c4
              try clear c5
              try clear c5b0
              try clear c6
              try clear c7
              try clear c8
              try clear c15
              try clear c17
              try clear c19
              try clear c23
              try clear c27
              try clear c29
              try clear c30
              try clear c32
              try clear c33
              try clear c35
              try clear c36
              try clear c37
              try clear c40
              try clear c41
              try clear c42
              try clear c43
              try clear c45
              try clear c46
              try clear c49
              try clear c50
              try clear c51
              try clear c53
              try clear c54
              try clear c57
              try clear c60
              try clear c67
              try clear c68
              try clear c69
              try clear c72
              try clear c72b0
              try clear c74
              try clear c75
              try clear c76
              try clear c77
              try clear c79
              try clear c80
              try clear c83
              try clear c84
              try clear c85
              try clear c87
              try clear c88
              try clear hcz15_0
              try clear hcz17_0
              try clear hcz24_0
              try clear hcz25_0
              try clear hcz31_0
              try clear hcz38_0
              try clear hcz44_0
              try clear hcz47_0
              try clear hcz52_0
              try clear hcz55_0
              try clear hcz70_0
              try clear hcz78_0
              try clear hcz7_0
              try clear hcz81_0
              try clear hcz86_0
              try clear hcz89_0
              try clear hfz15_0
              try clear hfz17_0
              try clear hfz24_0
              try clear hfz25_0
              try clear hfz31_0
              try clear hfz38_0
              try clear hfz44_0
              try clear hfz47_0
              try clear hfz52_0
              try clear hfz55_0
              try clear hfz70_0
              try clear hfz78_0
              try clear hfz7_0
              try clear hfz81_0
              try clear hfz86_0
              try clear hfz89_0
              try clear p2
              obtain ⟨kq, x69_61, rfl, HA, HJ61, HO_216000, HO_220000, HO_225000, BK206, BK215, BK219, BK224, HB⟩ := hcut
              have hl220000_61 := (Kd.R_reads' HO_220000.out).1
              rw [hl220000_61] at HO_220000
              (try simp only [hl220000_61])
              (try simp only [hl220000_61] at BK206)
              (try simp only [hl220000_61] at BK215)
              (try simp only [hl220000_61] at BK219)
              (try simp only [hl220000_61] at BK224)
              (try simp only [hl220000_61] at HO_216000)
              (try simp only [hl220000_61] at HO_225000)
              cases kq with
              | zero => exact absurd HA.out (by simp [laws_FnExactAddAt.j1])
              | succ kj61 =>
                have H := HA.out
                clear HA
                simp only [laws_FnExactAddAt.j1] at H
                by_cases c91 : x69_61 = true
                · subst c91
                  have H1 : (some false) = some r := by rw [if_pos rfl] at H; exact H
                  clear H
                  have H := H1
                  clear H1
                  obtain rfl := Option.some.inj H
                  go_wp2
                  go_ret
                  exact ⟨by first | rfl | (simp [errW_none, errW_some] <;> rfl) | (simp [*, errW_none, errW_some] <;> rfl), by repeat (first | (with_reducible first | exact HB.out | apply below_alloc | apply pw_below_drewN | apply below_drew1 | refine below_set ?_ GE206.out | refine below_set ?_ GE215.out | refine below_set ?_ GE219.out | refine below_set ?_ GE224.out) | exact HB.out)⟩
                · replace c91 := Bool.eq_false_iff.mpr c91
                  subst c91
                  have H1 : ((laws_markSums.f kj61 t220 1).bind fun bt233 => ((laws_heldSums.f kj61 bt233.2 1).bind fun t235 => (if t235 < 0 then (some false) else (if t235 = bt233.1 then ((laws_toSums.f kj61 l0_0).bind fun t236 => ((impl_AddAt.f kj61 t236 a1 a2).bind fun bt239 => ((laws_eqSums.f kj61 bt239.1 t211).bind fun t244 => (if t244 = true then (laws_FnExactAddAt.j2 kj61 bt233.1 (bt239.2 != t214) bt233.2) else (laws_FnExactAddAt.j2 kj61 bt233.1 true bt233.2))))) else (some false))))) = some r := by rw [if_neg (show ¬ (false = true) by decide)] at H; exact H
                  clear H
                  have H := H1
                  clear H1
                  replace H := Option.bind_eq_some_iff.mp H
                  obtain ⟨⟨t233, t234⟩, A920, H⟩ := H
                  replace H : ((laws_heldSums.f kj61 t234 1).bind fun t235 => (if t235 < 0 then (some false) else (if t235 = t233 then ((laws_toSums.f kj61 l0_0).bind fun t236 => ((impl_AddAt.f kj61 t236 a1 a2).bind fun bt239 => ((laws_eqSums.f kj61 bt239.1 t211).bind fun t244 => (if t244 = true then (laws_FnExactAddAt.j2 kj61 t233 (bt239.2 != t214) t234) else (laws_FnExactAddAt.j2 kj61 t233 true t234))))) else (some false)))) = some r := H
                  have A92 := Aside0.mk A920
                  clear A920
                  replace H := Option.bind_eq_some_iff.mp H
                  obtain ⟨t235, A930, H⟩ := H
                  replace H : (if t235 < 0 then (some false) else (if t235 = t233 then ((laws_toSums.f kj61 l0_0).bind fun t236 => ((impl_AddAt.f kj61 t236 a1 a2).bind fun bt239 => ((laws_eqSums.f kj61 bt239.1 t211).bind fun t244 => (if t244 = true then (laws_FnExactAddAt.j2 kj61 t233 (bt239.2 != t214) t234) else (laws_FnExactAddAt.j2 kj61 t233 true t234))))) else (some false))) = some r := H
                  have A93 := Aside0.mk A930
                  clear A930
                  by_cases c94 : t235 < 0
                  · rw [if_pos c94] at H
                    have c94b0 : decide (t235 < 0) = true := decide_eq_true c94
                    clear c94
                    obtain rfl := Option.some.inj H
                    have hnb95 := NB224_206.out
                    have hnc95 := NB206_224.out
                    have hnb96 := NB224_215.out
                    have hnc96 := NB215_224.out
                    have hnb97 := NB224_219.out
                    have hnc97 := NB219_224.out
                    have hcz98_0 : wc.cell? ⟨gb224, 0, none⟩ = some (.slice Ao34 t220.length co34) := (blk_cell BK224.out 0).trans rfl
                    have hfz98_0 := blk_frozen BK224.out 0
                    go_wp2_with (first | ((with_reducible refine gate_callee (f := 27) rfl ?_); refine goesL_ (some 72) rfl rfl Try.func27 (by kernel_rfl) rfl #[.agg #[.slice Ao34 t220.length co34], .int .i64 1] rfl (by (try simp only [List.map_toArray, List.map_cons, List.map_nil]); first | done | rfl | (simp only [List.length_drop, List.length_take]; rfl)) ?_; (with_reducible refine (laws_markSums.calls kj61 (fun k_ => some k_ = (.slice Ao34 t220.length co34 : Value).ownBlock) (.slice Ao34 t220.length co34) t220 1 t233 t234 w _ ?side1 ?side2 A92.out).mono ?_); (case side1 => repeat (first | (with_reducible first | exact HB.out | apply below_alloc | apply pw_below_drewN | apply below_drew1 | refine below_set ?_ GE206.out | refine below_set ?_ GE215.out | refine below_set ?_ GE219.out | refine below_set ?_ GE224.out) | exact HB.out)); (case side2 => exact Kd.R_tight rfl HO_225000.out); rintro e w99 ⟨rfl, hy0, hb, hkp⟩; refine ⟨_, rfl, ?_⟩; have n0_ := Aside0.mk (Kd.R_mono (ok' := fun k_ => some k_ ≠ (.slice Ao28 t231.length co28 : Value).ownBlock ∧ some k_ ≠ (.slice Ao34 t220.length co34 : Value).ownBlock) (Kd.R_keptB (HO_216000.out) hkp (fun k_ hk_ hs_ => (hk_.2) hs_)) (fun k_ hk_ => ⟨hk_.1.1, hk_.1.2⟩)); have n1_ := Aside0.mk (Kd.R_mono (ok' := fun k_ => some k_ ≠ (.slice Ao22 t211.length co22 : Value).ownBlock ∧ some k_ ≠ (.slice Ao34 t220.length co34 : Value).ownBlock) (Kd.R_keptB (HO_220000.out) hkp (fun k_ hk_ hs_ => (hk_.2) hs_)) (fun k_ hk_ => ⟨hk_.1.1, hk_.1.2⟩)); have n2_ := Aside0.mk (Kd.R_reok rfl hy0 (fun k_ e_ => HO_225000.out.1 k_ e_)); have n3_ := Aside0.mk (blk_kept (by (with_reducible repeat (first | refine blk_drewN ?_ _ | refine blk_drew ?_ | refine blk_alloc ?_ _)); exact BK206.out) hkp (fun hs_ => (fun e_ => (Kd.R_ne HO_225000.out BK206.out (by decide)) e_) hs_)); have n4_ := Aside0.mk (blk_kept (by (with_reducible repeat (first | refine blk_drewN ?_ _ | refine blk_drew ?_ | refine blk_alloc ?_ _)); exact BK215.out) hkp (fun hs_ => (fun e_ => (Kd.R_ne HO_225000.out BK215.out (by decide)) e_) hs_)); have n5_ := Aside0.mk (blk_kept (by (with_reducible repeat (first | refine blk_drewN ?_ _ | refine blk_drew ?_ | refine blk_alloc ?_ _)); exact BK219.out) hkp (fun hs_ => (fun e_ => (Kd.R_ne HO_225000.out BK219.out (by decide)) e_) hs_)); have n6_ := Aside0.mk (blk_kept (by (with_reducible repeat (first | refine blk_drewN ?_ _ | refine blk_drew ?_ | refine blk_alloc ?_ _)); exact BK224.out) hkp (fun hs_ => (fun e_ => (Kd.R_ne HO_225000.out BK224.out (by decide)) e_) hs_)); have n7_ := Aside0.mk (hb); clear HO_216000; clear HO_220000; clear HO_225000; clear BK206; clear BK215; clear BK219; clear BK224; clear HB; have HO_216000 := n0_; have HO_220000 := n1_; have HO_225000 := n2_; have BK206 := n3_; have BK215 := n4_; have BK219 := n5_; have BK224 := n6_; have HB := n7_; clear n0_ n1_ n2_ n3_ n4_ n5_ n6_ n7_; (try clear hb); (try clear hkp); (try clear hy0); have hcz100_0 : w99.cell? ⟨gb224, 0, none⟩ = some (.slice Ao34 t220.length co34) := (blk_cell BK224.out 0).trans rfl; have hfz100_0 := blk_frozen BK224.out 0) | ((with_reducible refine gate_callee (f := 34) rfl ?_); refine goesL_ (some 75) rfl rfl Try.func34 (by kernel_rfl) rfl #[.agg #[.slice Ao34 t234.length co34], .int .i64 1] rfl (by (try simp only [List.map_toArray, List.map_cons, List.map_nil]); first | done | (rw [show t234.length = t220.length from (Kd.R_reads' HO_225000.out).1.symm] <;> rfl) | rfl | (simp only [List.length_drop, List.length_take]; rfl)) ?_; (with_reducible refine (laws_heldSums.calls kj61 _ _ t234 1 t235 _ ?side1 ?side2 A93.out).mono ?_); (case side1 => repeat (first | exact (Kd.R_reads' HO_225000.out).2.2 | (with_reducible refine Kd.C_alloc ?_ _) | (with_reducible refine Kd.C_drewN ?_ _) | (with_reducible refine Kd.C_drew ?_))); (case side2 => rw [show t234.length = t220.length from (Kd.R_reads' HO_225000.out).1.symm]; exact (Kd.R_reads' HO_225000.out).2.1); rintro e w101 ⟨rfl, hb⟩; refine ⟨_, rfl, ?_⟩; have n0_ := Aside0.mk (Kd.R_below (by (with_reducible repeat (first | apply Kd.R_alloc | apply Kd.R_drewN | apply Kd.R_drew)); exact HO_216000.out) hb); have n1_ := Aside0.mk (Kd.R_below (by (with_reducible repeat (first | apply Kd.R_alloc | apply Kd.R_drewN | apply Kd.R_drew)); exact HO_220000.out) hb); have n2_ := Aside0.mk (Kd.R_below (by (with_reducible repeat (first | apply Kd.R_alloc | apply Kd.R_drewN | apply Kd.R_drew)); exact HO_225000.out) hb); have n3_ := Aside0.mk (blk_below (g := gb206) (o := .cells #[.slice A0_0 l0_0.length c0_0] 24 (0, 0)) (by (with_reducible repeat (first | refine blk_drewN ?_ _ | refine blk_drew ?_ | refine blk_alloc ?_ _)); exact BK206.out) hb); have n4_ := Aside0.mk (blk_below (g := gb215) (o := .cells #[.slice Ao22 t211.length co22] 27 (0, 0)) (by (with_reducible repeat (first | refine blk_drewN ?_ _ | refine blk_drew ?_ | refine blk_alloc ?_ _)); exact BK215.out) hb); have n5_ := Aside0.mk (blk_below (g := gb219) (o := .cells #[.slice Ao28 t231.length co28] 27 (0, 0)) (by (with_reducible repeat (first | refine blk_drewN ?_ _ | refine blk_drew ?_ | refine blk_alloc ?_ _)); exact BK219.out) hb); have n6_ := Aside0.mk (blk_below (g := gb224) (o := .cells #[.slice Ao34 t220.length co34] 27 (0, 0)) (by (with_reducible repeat (first | refine blk_drewN ?_ _ | refine blk_drew ?_ | refine blk_alloc ?_ _)); exact BK224.out) hb); have n7_ := Aside0.mk (below_step (by repeat (first | (with_reducible first | exact HB.out | apply below_alloc | apply pw_below_drewN | apply below_drew1 | refine below_set ?_ GE206.out | refine below_set ?_ GE215.out | refine below_set ?_ GE219.out | refine below_set ?_ GE224.out) | exact HB.out)) hb); clear HO_216000; clear HO_220000; clear HO_225000; clear BK206; clear BK215; clear BK219; clear BK224; clear HB; have HO_216000 := n0_; have HO_220000 := n1_; have HO_225000 := n2_; have BK206 := n3_; have BK215 := n4_; have BK219 := n5_; have BK224 := n6_; have HB := n7_; clear n0_ n1_ n2_ n3_ n4_ n5_ n6_ n7_; (try clear hb); (try clear hb2); (try clear hk); (try clear hi)))
                    go_ret
                    exact ⟨by first | rfl | (simp [errW_none, errW_some] <;> rfl) | (simp [*, errW_none, errW_some] <;> rfl), by repeat (first | (with_reducible first | exact HB.out | apply below_alloc | apply pw_below_drewN | apply below_drew1 | refine below_set ?_ GE206.out | refine below_set ?_ GE215.out | refine below_set ?_ GE219.out | refine below_set ?_ GE224.out) | exact HB.out)⟩
                  · rw [if_neg c94] at H
                    have c94b0 : decide (t235 < 0) = false := decide_eq_false c94
                    clear c94
                    by_cases c102 : t235 = t233
                    · rw [if_pos c102] at H
                      have c102b0 : (t235 == t233) = true := beq_iff_eq.mpr c102
                      have c102b1 : (t235 != t233) = false := bne_eq_false_iff_eq.mpr c102
                      clear c102
                      replace H := Option.bind_eq_some_iff.mp H
                      obtain ⟨t236, A1030, H⟩ := H
                      replace H : ((impl_AddAt.f kj61 t236 a1 a2).bind fun bt239 => ((laws_eqSums.f kj61 bt239.1 t211).bind fun t244 => (if t244 = true then (laws_FnExactAddAt.j2 kj61 t233 (bt239.2 != t214) t234) else (laws_FnExactAddAt.j2 kj61 t233 true t234)))) = some r := H
                      have A103 := Aside0.mk A1030
                      clear A1030
                      replace H := Option.bind_eq_some_iff.mp H
                      obtain ⟨⟨t239, t242⟩, A1040, H⟩ := H
                      replace H : ((laws_eqSums.f kj61 t239 t211).bind fun t244 => (if t244 = true then (laws_FnExactAddAt.j2 kj61 t233 (t242 != t214) t234) else (laws_FnExactAddAt.j2 kj61 t233 true t234))) = some r := H
                      have A104 := Aside0.mk A1040
                      clear A1040
                      have HC105 := Aside0.mk H
                      clear H
                      have hnb106 := NB224_206.out
                      have hnc106 := NB206_224.out
                      have hnb107 := NB224_215.out
                      have hnc107 := NB215_224.out
                      have hnb108 := NB224_219.out
                      have hnc108 := NB219_224.out
                      have hcz109_0 : wc.cell? ⟨gb224, 0, none⟩ = some (.slice Ao34 t220.length co34) := (blk_cell BK224.out 0).trans rfl
                      have hfz109_0 := blk_frozen BK224.out 0
                      go_upto_region 25 with (first | ((with_reducible refine gate_callee (f := 27) rfl ?_); refine goesL_ (some 72) rfl rfl Try.func27 (by kernel_rfl) rfl #[.agg #[.slice Ao34 t220.length co34], .int .i64 1] rfl (by (try simp only [List.map_toArray, List.map_cons, List.map_nil]); first | done | rfl | (simp only [List.length_drop, List.length_take]; rfl)) ?_; (with_reducible refine (laws_markSums.calls kj61 (fun k_ => some k_ = (.slice Ao34 t220.length co34 : Value).ownBlock) (.slice Ao34 t220.length co34) t220 1 t233 t234 w _ ?side1 ?side2 A92.out).mono ?_); (case side1 => repeat (first | (with_reducible first | exact HB.out | apply below_alloc | apply pw_below_drewN | apply below_drew1 | refine below_set ?_ GE206.out | refine below_set ?_ GE215.out | refine below_set ?_ GE219.out | refine below_set ?_ GE224.out) | exact HB.out)); (case side2 => exact Kd.R_tight rfl HO_225000.out); rintro e w110 ⟨rfl, hy0, hb, hkp⟩; refine ⟨_, rfl, ?_⟩; have n0_ := Aside0.mk (Kd.R_mono (ok' := fun k_ => some k_ ≠ (.slice Ao28 t231.length co28 : Value).ownBlock ∧ some k_ ≠ (.slice Ao34 t220.length co34 : Value).ownBlock) (Kd.R_keptB (HO_216000.out) hkp (fun k_ hk_ hs_ => (hk_.2) hs_)) (fun k_ hk_ => ⟨hk_.1.1, hk_.1.2⟩)); have n1_ := Aside0.mk (Kd.R_mono (ok' := fun k_ => some k_ ≠ (.slice Ao22 t211.length co22 : Value).ownBlock ∧ some k_ ≠ (.slice Ao34 t220.length co34 : Value).ownBlock) (Kd.R_keptB (HO_220000.out) hkp (fun k_ hk_ hs_ => (hk_.2) hs_)) (fun k_ hk_ => ⟨hk_.1.1, hk_.1.2⟩)); have n2_ := Aside0.mk (Kd.R_reok rfl hy0 (fun k_ e_ => HO_225000.out.1 k_ e_)); have n3_ := Aside0.mk (blk_kept (by (with_reducible repeat (first | refine blk_drewN ?_ _ | refine blk_drew ?_ | refine blk_alloc ?_ _)); exact BK206.out) hkp (fun hs_ => (fun e_ => (Kd.R_ne HO_225000.out BK206.out (by decide)) e_) hs_)); have n4_ := Aside0.mk (blk_kept (by (with_reducible repeat (first | refine blk_drewN ?_ _ | refine blk_drew ?_ | refine blk_alloc ?_ _)); exact BK215.out) hkp (fun hs_ => (fun e_ => (Kd.R_ne HO_225000.out BK215.out (by decide)) e_) hs_)); have n5_ := Aside0.mk (blk_kept (by (with_reducible repeat (first | refine blk_drewN ?_ _ | refine blk_drew ?_ | refine blk_alloc ?_ _)); exact BK219.out) hkp (fun hs_ => (fun e_ => (Kd.R_ne HO_225000.out BK219.out (by decide)) e_) hs_)); have n6_ := Aside0.mk (blk_kept (by (with_reducible repeat (first | refine blk_drewN ?_ _ | refine blk_drew ?_ | refine blk_alloc ?_ _)); exact BK224.out) hkp (fun hs_ => (fun e_ => (Kd.R_ne HO_225000.out BK224.out (by decide)) e_) hs_)); have n7_ := Aside0.mk (hb); clear HO_216000; clear HO_220000; clear HO_225000; clear BK206; clear BK215; clear BK219; clear BK224; clear HB; have HO_216000 := n0_; have HO_220000 := n1_; have HO_225000 := n2_; have BK206 := n3_; have BK215 := n4_; have BK219 := n5_; have BK224 := n6_; have HB := n7_; clear n0_ n1_ n2_ n3_ n4_ n5_ n6_ n7_; (try clear hb); (try clear hkp); (try clear hy0); have hcz111_0 : w110.cell? ⟨gb224, 0, none⟩ = some (.slice Ao34 t220.length co34) := (blk_cell BK224.out 0).trans rfl; have hfz111_0 := blk_frozen BK224.out 0) | ((with_reducible refine gate_callee (f := 34) rfl ?_); refine goesL_ (some 75) rfl rfl Try.func34 (by kernel_rfl) rfl #[.agg #[.slice Ao34 t234.length co34], .int .i64 1] rfl (by (try simp only [List.map_toArray, List.map_cons, List.map_nil]); first | done | (rw [show t234.length = t220.length from (Kd.R_reads' HO_225000.out).1.symm] <;> rfl) | rfl | (simp only [List.length_drop, List.length_take]; rfl)) ?_; (with_reducible refine (laws_heldSums.calls kj61 _ _ t234 1 t235 _ ?side1 ?side2 A93.out).mono ?_); (case side1 => repeat (first | exact (Kd.R_reads' HO_225000.out).2.2 | (with_reducible refine Kd.C_alloc ?_ _) | (with_reducible refine Kd.C_drewN ?_ _) | (with_reducible refine Kd.C_drew ?_))); (case side2 => rw [show t234.length = t220.length from (Kd.R_reads' HO_225000.out).1.symm]; exact (Kd.R_reads' HO_225000.out).2.1); rintro e w112 ⟨rfl, hb⟩; refine ⟨_, rfl, ?_⟩; have n0_ := Aside0.mk (Kd.R_below (by (with_reducible repeat (first | apply Kd.R_alloc | apply Kd.R_drewN | apply Kd.R_drew)); exact HO_216000.out) hb); have n1_ := Aside0.mk (Kd.R_below (by (with_reducible repeat (first | apply Kd.R_alloc | apply Kd.R_drewN | apply Kd.R_drew)); exact HO_220000.out) hb); have n2_ := Aside0.mk (Kd.R_below (by (with_reducible repeat (first | apply Kd.R_alloc | apply Kd.R_drewN | apply Kd.R_drew)); exact HO_225000.out) hb); have n3_ := Aside0.mk (blk_below (g := gb206) (o := .cells #[.slice A0_0 l0_0.length c0_0] 24 (0, 0)) (by (with_reducible repeat (first | refine blk_drewN ?_ _ | refine blk_drew ?_ | refine blk_alloc ?_ _)); exact BK206.out) hb); have n4_ := Aside0.mk (blk_below (g := gb215) (o := .cells #[.slice Ao22 t211.length co22] 27 (0, 0)) (by (with_reducible repeat (first | refine blk_drewN ?_ _ | refine blk_drew ?_ | refine blk_alloc ?_ _)); exact BK215.out) hb); have n5_ := Aside0.mk (blk_below (g := gb219) (o := .cells #[.slice Ao28 t231.length co28] 27 (0, 0)) (by (with_reducible repeat (first | refine blk_drewN ?_ _ | refine blk_drew ?_ | refine blk_alloc ?_ _)); exact BK219.out) hb); have n6_ := Aside0.mk (blk_below (g := gb224) (o := .cells #[.slice Ao34 t220.length co34] 27 (0, 0)) (by (with_reducible repeat (first | refine blk_drewN ?_ _ | refine blk_drew ?_ | refine blk_alloc ?_ _)); exact BK224.out) hb); have n7_ := Aside0.mk (below_step (by repeat (first | (with_reducible first | exact HB.out | apply below_alloc | apply pw_below_drewN | apply below_drew1 | refine below_set ?_ GE206.out | refine below_set ?_ GE215.out | refine below_set ?_ GE219.out | refine below_set ?_ GE224.out) | exact HB.out)) hb); clear HO_216000; clear HO_220000; clear HO_225000; clear BK206; clear BK215; clear BK219; clear BK224; clear HB; have HO_216000 := n0_; have HO_220000 := n1_; have HO_225000 := n2_; have BK206 := n3_; have BK215 := n4_; have BK219 := n5_; have BK224 := n6_; have HB := n7_; clear n0_ n1_ n2_ n3_ n4_ n5_ n6_ n7_; (try clear hb); (try clear hb2); (try clear hk); (try clear hi); have hnb113 := NB206_215.out; have hnc113 := NB215_206.out; have hnb114 := NB206_219.out; have hnc114 := NB219_206.out; have hcz115_0 : w112.cell? ⟨gb206, 0, none⟩ = some (.slice A0_0 l0_0.length c0_0) := (blk_cell BK206.out 0).trans rfl; have hfz115_0 := blk_frozen BK206.out 0) | ((with_reducible refine gate_callee (f := 17) rfl ?_); refine goesL_ (some 83) rfl rfl Try.func17 (by kernel_rfl) rfl #[.agg #[.slice A0_0 l0_0.length c0_0]] rfl (by (try simp only [List.map_toArray, List.map_cons, List.map_nil]); first | done | rfl | (simp only [List.length_drop, List.length_take]; rfl)) ?_; (with_reducible refine (laws_toSums.calls kj61 _ _ l0_0 t236 _ ?side1 ?side2 A103.out).mono ?_); (case side1 => repeat (first | exact (Kd.C_below HR0_0.out HB.out) | (with_reducible refine Kd.C_alloc ?_ _) | (with_reducible refine Kd.C_drewN ?_ _) | (with_reducible refine Kd.C_drew ?_))); (case side2 => exact HC0_0.out); rintro e w116 ⟨v237, rfl, ho0, hb⟩; refine ⟨_, rfl, ?_⟩; have n0_ := Aside0.mk (Kd.R_elder' (by (with_reducible repeat (first | apply Kd.R_alloc | apply Kd.R_drewN | apply Kd.R_drew)); exact HO_216000.out) (Kd.R_base ho0) hb); have n1_ := Aside0.mk (Kd.R_elder' (by (with_reducible repeat (first | apply Kd.R_alloc | apply Kd.R_drewN | apply Kd.R_drew)); exact HO_220000.out) (Kd.R_base ho0) hb); have n2_ := Aside0.mk (Kd.R_elder' (by (with_reducible repeat (first | apply Kd.R_alloc | apply Kd.R_drewN | apply Kd.R_drew)); exact HO_225000.out) (Kd.R_base ho0) hb); have n3_ := Aside0.mk (Kd.R_lower (Kd.R_new' (Kd.R_new' (Kd.R_new' ho0 (Kd.R_lt (by (with_reducible repeat (first | apply Kd.R_alloc | apply Kd.R_drewN | apply Kd.R_drew)); exact HO_216000.out))) (Kd.R_lt (by (with_reducible repeat (first | apply Kd.R_alloc | apply Kd.R_drewN | apply Kd.R_drew)); exact HO_220000.out))) (Kd.R_lt (by (with_reducible repeat (first | apply Kd.R_alloc | apply Kd.R_drewN | apply Kd.R_drew)); exact HO_225000.out))) (below_size (by repeat (first | (with_reducible first | exact HB.out | apply below_alloc | apply pw_below_drewN | apply below_drew1 | refine below_set ?_ GE206.out | refine below_set ?_ GE215.out | refine below_set ?_ GE219.out | refine below_set ?_ GE224.out) | exact HB.out)))); have n4_ := Aside0.mk (blk_below (g := gb206) (o := .cells #[.slice A0_0 l0_0.length c0_0] 24 (0, 0)) (by (with_reducible repeat (first | refine blk_drewN ?_ _ | refine blk_drew ?_ | refine blk_alloc ?_ _)); exact BK206.out) hb); have n5_ := Aside0.mk (blk_below (g := gb215) (o := .cells #[.slice Ao22 t211.length co22] 27 (0, 0)) (by (with_reducible repeat (first | refine blk_drewN ?_ _ | refine blk_drew ?_ | refine blk_alloc ?_ _)); exact BK215.out) hb); have n6_ := Aside0.mk (blk_below (g := gb219) (o := .cells #[.slice Ao28 t231.length co28] 27 (0, 0)) (by (with_reducible repeat (first | refine blk_drewN ?_ _ | refine blk_drew ?_ | refine blk_alloc ?_ _)); exact BK219.out) hb); have n7_ := Aside0.mk (blk_below (g := gb224) (o := .cells #[.slice Ao34 t220.length co34] 27 (0, 0)) (by (with_reducible repeat (first | refine blk_drewN ?_ _ | refine blk_drew ?_ | refine blk_alloc ?_ _)); exact BK224.out) hb); have n8_ := Aside0.mk (below_step (by repeat (first | (with_reducible first | exact HB.out | apply below_alloc | apply pw_below_drewN | apply below_drew1 | refine below_set ?_ GE206.out | refine below_set ?_ GE215.out | refine below_set ?_ GE219.out | refine below_set ?_ GE224.out) | exact HB.out)) hb); clear HO_216000; clear HO_220000; clear HO_225000; clear BK206; clear BK215; clear BK219; clear BK224; clear HB; have HO_216000 := n0_; have HO_220000 := n1_; have HO_225000 := n2_; have HO238 := n3_; have BK206 := n4_; have BK215 := n5_; have BK219 := n6_; have BK224 := n7_; have HB := n8_; clear n0_ n1_ n2_ n3_ n4_ n5_ n6_ n7_ n8_; (try clear hb); (try clear hb2); (try clear hk); (try clear hi); (try clear ho0); obtain ⟨Ao117, co117, eo117⟩ := Kd.R_slice HO238.out; subst eo117) | ((with_reducible refine gate_callee (f := 33) rfl ?_); refine goesL_ (some 86) rfl rfl Try.func33 (by kernel_rfl) rfl #[.agg #[.slice Ao117 t236.length co117], .int .i64 a1, .int .i64 a2] rfl (by (try simp only [List.map_toArray, List.map_cons, List.map_nil]); first | done | rfl | (simp only [List.length_drop, List.length_take]; rfl)) ?_; (with_reducible refine (impl_AddAt.calls kj61 _ _ t236 a1 a2 t239 t242 _ ?side1 ?side2 A104.out).mono ?_); (case side1 => repeat (first | exact (Kd.R_reads' HO238.out).2.2 | (with_reducible refine Kd.C_alloc ?_ _) | (with_reducible refine Kd.C_drewN ?_ _) | (with_reducible refine Kd.C_drew ?_))); (case side2 => exact (Kd.R_reads' HO238.out).2.1); rintro e w118 ⟨v240, rfl, ho0, hb⟩; refine ⟨_, rfl, ?_⟩; have n0_ := Aside0.mk (Kd.R_elder' (by (with_reducible repeat (first | apply Kd.R_alloc | apply Kd.R_drewN | apply Kd.R_drew)); exact HO_216000.out) (Kd.R_base ho0) hb); have n1_ := Aside0.mk (Kd.R_elder' (by (with_reducible repeat (first | apply Kd.R_alloc | apply Kd.R_drewN | apply Kd.R_drew)); exact HO_220000.out) (Kd.R_base ho0) hb); have n2_ := Aside0.mk (Kd.R_elder' (by (with_reducible repeat (first | apply Kd.R_alloc | apply Kd.R_drewN | apply Kd.R_drew)); exact HO_225000.out) (Kd.R_base ho0) hb); have n3_ := Aside0.mk (Kd.R_elder' (by (with_reducible repeat (first | apply Kd.R_alloc | apply Kd.R_drewN | apply Kd.R_drew)); exact HO238.out) (Kd.R_base ho0) hb); have n4_ := Aside0.mk (Kd.R_lower (Kd.R_new' (Kd.R_new' (Kd.R_new' (Kd.R_new' ho0 (Kd.R_lt (by (with_reducible repeat (first | apply Kd.R_alloc | apply Kd.R_drewN | apply Kd.R_drew)); exact HO_216000.out))) (Kd.R_lt (by (with_reducible repeat (first | apply Kd.R_alloc | apply Kd.R_drewN | apply Kd.R_drew)); exact HO_220000.out))) (Kd.R_lt (by (with_reducible repeat (first | apply Kd.R_alloc | apply Kd.R_drewN | apply Kd.R_drew)); exact HO_225000.out))) (Kd.R_lt (by (with_reducible repeat (first | apply Kd.R_alloc | apply Kd.R_drewN | apply Kd.R_drew)); exact HO238.out))) (below_size (by repeat (first | (with_reducible first | exact HB.out | apply below_alloc | apply pw_below_drewN | apply below_drew1 | refine below_set ?_ GE206.out | refine below_set ?_ GE215.out | refine below_set ?_ GE219.out | refine below_set ?_ GE224.out) | exact HB.out)))); have n5_ := Aside0.mk (blk_below (g := gb206) (o := .cells #[.slice A0_0 l0_0.length c0_0] 24 (0, 0)) (by (with_reducible repeat (first | refine blk_drewN ?_ _ | refine blk_drew ?_ | refine blk_alloc ?_ _)); exact BK206.out) hb); have n6_ := Aside0.mk (blk_below (g := gb215) (o := .cells #[.slice Ao22 t211.length co22] 27 (0, 0)) (by (with_reducible repeat (first | refine blk_drewN ?_ _ | refine blk_drew ?_ | refine blk_alloc ?_ _)); exact BK215.out) hb); have n7_ := Aside0.mk (blk_below (g := gb219) (o := .cells #[.slice Ao28 t231.length co28] 27 (0, 0)) (by (with_reducible repeat (first | refine blk_drewN ?_ _ | refine blk_drew ?_ | refine blk_alloc ?_ _)); exact BK219.out) hb); have n8_ := Aside0.mk (blk_below (g := gb224) (o := .cells #[.slice Ao34 t220.length co34] 27 (0, 0)) (by (with_reducible repeat (first | refine blk_drewN ?_ _ | refine blk_drew ?_ | refine blk_alloc ?_ _)); exact BK224.out) hb); have n9_ := Aside0.mk (below_step (by repeat (first | (with_reducible first | exact HB.out | apply below_alloc | apply pw_below_drewN | apply below_drew1 | refine below_set ?_ GE206.out | refine below_set ?_ GE215.out | refine below_set ?_ GE219.out | refine below_set ?_ GE224.out) | exact HB.out)) hb); clear HO_216000; clear HO_220000; clear HO_225000; clear HO238; clear BK206; clear BK215; clear BK219; clear BK224; clear HB; have HO_216000 := n0_; have HO_220000 := n1_; have HO_225000 := n2_; have HO238 := n3_; have HO241 := n4_; have BK206 := n5_; have BK215 := n6_; have BK219 := n7_; have BK224 := n8_; have HB := n9_; clear n0_ n1_ n2_ n3_ n4_ n5_ n6_ n7_ n8_ n9_; (try clear hb); (try clear hb2); (try clear hk); (try clear hi); (try clear ho0)) | ((with_reducible refine gate_dst (N := 16) rfl ?_); refine box_event ?hg (N := 16) ?hd (cs := #[.slice none 0 0]) (t := 27) ?hr ?_; (case hd => rfl); (case hg => rfl); (case hr => first | (go_simp; done) | (go_simp; rfl)); intro gb243 hg w119 hbox hb; have n0_ := Aside0.mk (Kd.R_below (by (with_reducible repeat (first | apply Kd.R_alloc | apply Kd.R_drewN | apply Kd.R_drew)); exact HO_216000.out) hb); have n1_ := Aside0.mk (Kd.R_below (by (with_reducible repeat (first | apply Kd.R_alloc | apply Kd.R_drewN | apply Kd.R_drew)); exact HO_220000.out) hb); have n2_ := Aside0.mk (Kd.R_below (by (with_reducible repeat (first | apply Kd.R_alloc | apply Kd.R_drewN | apply Kd.R_drew)); exact HO_225000.out) hb); have n3_ := Aside0.mk (Kd.R_below (by (with_reducible repeat (first | apply Kd.R_alloc | apply Kd.R_drewN | apply Kd.R_drew)); exact HO238.out) hb); have n4_ := Aside0.mk (Kd.R_below (by (with_reducible repeat (first | apply Kd.R_alloc | apply Kd.R_drewN | apply Kd.R_drew)); exact HO241.out) hb); have n5_ := Aside0.mk (blk_below (g := gb206) (o := .cells #[.slice A0_0 l0_0.length c0_0] 24 (0, 0)) (by (with_reducible repeat (first | refine blk_drewN ?_ _ | refine blk_drew ?_ | refine blk_alloc ?_ _)); exact BK206.out) hb); have n6_ := Aside0.mk (blk_below (g := gb215) (o := .cells #[.slice Ao22 t211.length co22] 27 (0, 0)) (by (with_reducible repeat (first | refine blk_drewN ?_ _ | refine blk_drew ?_ | refine blk_alloc ?_ _)); exact BK215.out) hb); have n7_ := Aside0.mk (blk_below (g := gb219) (o := .cells #[.slice Ao28 t231.length co28] 27 (0, 0)) (by (with_reducible repeat (first | refine blk_drewN ?_ _ | refine blk_drew ?_ | refine blk_alloc ?_ _)); exact BK219.out) hb); have n8_ := Aside0.mk (blk_below (g := gb224) (o := .cells #[.slice Ao34 t220.length co34] 27 (0, 0)) (by (with_reducible repeat (first | refine blk_drewN ?_ _ | refine blk_drew ?_ | refine blk_alloc ?_ _)); exact BK224.out) hb); have n9_ := Aside0.mk (below_step (by repeat (first | (with_reducible first | exact HB.out | apply below_alloc | apply pw_below_drewN | apply below_drew1 | refine below_set ?_ GE206.out | refine below_set ?_ GE215.out | refine below_set ?_ GE219.out | refine below_set ?_ GE224.out) | exact HB.out)) hb); have n10_ := Aside0.mk (hbox); have n11_ := Aside0.mk ((by rw [hg]; exact (below_size (by repeat (first | (with_reducible first | exact HB.out | apply below_alloc | apply pw_below_drewN | apply below_drew1 | refine below_set ?_ GE206.out | refine below_set ?_ GE215.out | refine below_set ?_ GE219.out | refine below_set ?_ GE224.out) | exact HB.out))) : w.heap.size ≤ gb243)); have n12_ := Aside0.mk ((by rw [hg]; exact (below_size (by repeat (first | (with_reducible first | exact HB.out | apply below_alloc | apply pw_below_drewN | apply below_drew1 | refine below_set ?_ GE206.out | refine below_set ?_ GE215.out | refine below_set ?_ GE219.out | refine below_set ?_ GE224.out) | exact HB.out))) : w.heap.size ≤ gb243)); have n13_ := Aside0.mk ((by rw [hg]; exact Nat.ne_of_lt (blk_lt (g := gb206) (o := .cells #[.slice A0_0 l0_0.length c0_0] 24 (0, 0)) (by (with_reducible repeat (first | refine blk_drewN ?_ _ | refine blk_drew ?_ | refine blk_alloc ?_ _)); exact BK206.out)) : gb206 ≠ gb243)); have n14_ := Aside0.mk ((by rw [hg]; exact Nat.ne_of_gt (blk_lt (g := gb206) (o := .cells #[.slice A0_0 l0_0.length c0_0] 24 (0, 0)) (by (with_reducible repeat (first | refine blk_drewN ?_ _ | refine blk_drew ?_ | refine blk_alloc ?_ _)); exact BK206.out)) : gb243 ≠ gb206)); have n15_ := Aside0.mk ((by rw [hg]; exact Nat.ne_of_lt (blk_lt (g := gb215) (o := .cells #[.slice Ao22 t211.length co22] 27 (0, 0)) (by (with_reducible repeat (first | refine blk_drewN ?_ _ | refine blk_drew ?_ | refine blk_alloc ?_ _)); exact BK215.out)) : gb215 ≠ gb243)); have n16_ := Aside0.mk ((by rw [hg]; exact Nat.ne_of_gt (blk_lt (g := gb215) (o := .cells #[.slice Ao22 t211.length co22] 27 (0, 0)) (by (with_reducible repeat (first | refine blk_drewN ?_ _ | refine blk_drew ?_ | refine blk_alloc ?_ _)); exact BK215.out)) : gb243 ≠ gb215)); have n17_ := Aside0.mk ((by rw [hg]; exact Nat.ne_of_lt (blk_lt (g := gb219) (o := .cells #[.slice Ao28 t231.length co28] 27 (0, 0)) (by (with_reducible repeat (first | refine blk_drewN ?_ _ | refine blk_drew ?_ | refine blk_alloc ?_ _)); exact BK219.out)) : gb219 ≠ gb243)); have n18_ := Aside0.mk ((by rw [hg]; exact Nat.ne_of_gt (blk_lt (g := gb219) (o := .cells #[.slice Ao28 t231.length co28] 27 (0, 0)) (by (with_reducible repeat (first | refine blk_drewN ?_ _ | refine blk_drew ?_ | refine blk_alloc ?_ _)); exact BK219.out)) : gb243 ≠ gb219)); have n19_ := Aside0.mk ((by rw [hg]; exact Nat.ne_of_lt (blk_lt (g := gb224) (o := .cells #[.slice Ao34 t220.length co34] 27 (0, 0)) (by (with_reducible repeat (first | refine blk_drewN ?_ _ | refine blk_drew ?_ | refine blk_alloc ?_ _)); exact BK224.out)) : gb224 ≠ gb243)); have n20_ := Aside0.mk ((by rw [hg]; exact Nat.ne_of_gt (blk_lt (g := gb224) (o := .cells #[.slice Ao34 t220.length co34] 27 (0, 0)) (by (with_reducible repeat (first | refine blk_drewN ?_ _ | refine blk_drew ?_ | refine blk_alloc ?_ _)); exact BK224.out)) : gb243 ≠ gb224)); clear HO_216000; clear HO_220000; clear HO_225000; clear HO238; clear HO241; clear BK206; clear BK215; clear BK219; clear BK224; clear HB; have HO_216000 := n0_; have HO_220000 := n1_; have HO_225000 := n2_; have HO238 := n3_; have HO241 := n4_; have BK206 := n5_; have BK215 := n6_; have BK219 := n7_; have BK224 := n8_; have HB := n9_; have BK243 := n10_; have GW243 := n11_; have GE243 := n12_; have NB206_243 := n13_; have NB243_206 := n14_; have NB215_243 := n15_; have NB243_215 := n16_; have NB219_243 := n17_; have NB243_219 := n18_; have NB224_243 := n19_; have NB243_224 := n20_; clear n0_ n1_ n2_ n3_ n4_ n5_ n6_ n7_ n8_ n9_ n10_ n11_ n12_ n13_ n14_ n15_ n16_ n17_ n18_ n19_ n20_; clear hb hbox hg; obtain ⟨Ao120, co120, eo120⟩ := Kd.R_slice HO241.out; subst eo120; have hnb121 := NB243_206.out; have hnc121 := NB206_243.out; have hnb122 := NB243_215.out; have hnc122 := NB215_243.out; have hnb123 := NB243_219.out; have hnc123 := NB219_243.out; have hnb124 := NB243_224.out; have hnc124 := NB224_243.out; have hcz125_0 : w119.cell? ⟨gb243, 0, none⟩ = some (.slice none 0 0) := (blk_cell BK243.out 0).trans rfl; have hfz125_0 := blk_frozen BK243.out 0))
                      (try simp only [Act.put, List.setIfInBounds_toArray, List.set_cons_zero, List.set_cons_succ])
                      go_cut [97] (fun v97 wc => ∃ (kq : Nat) (x97_104 : Bool), v97 = .bool x97_104 ∧ Aside0 (laws_FnExactAddAt.j2 kq t233 x97_104 t234 = some r) ∧ Aside0 (kq ≤ kj61) ∧ Aside0 (Kd.R (Kd.int .i64) 3 wc w.heap.size (fun k_ => some k_ ≠ ((.slice Ao28 t231.length co28) : Value).ownBlock ∧ some k_ ≠ ((.slice Ao34 t220.length co34) : Value).ownBlock ∧ some k_ ≠ ((.slice Ao120 t239.length co120) : Value).ownBlock) (.slice Ao22 t211.length co22) t211) ∧ Aside0 (Kd.R (Kd.int .i64) 3 wc w.heap.size (fun k_ => some k_ ≠ ((.slice Ao22 t211.length co22) : Value).ownBlock ∧ some k_ ≠ ((.slice Ao34 t220.length co34) : Value).ownBlock ∧ some k_ ≠ ((.slice Ao120 t239.length co120) : Value).ownBlock) (.slice Ao28 t231.length co28) t231) ∧ Aside0 (Kd.R (Kd.int .i64) 3 wc w.heap.size (fun k_ => some k_ ≠ ((.slice Ao22 t211.length co22) : Value).ownBlock ∧ some k_ ≠ ((.slice Ao28 t231.length co28) : Value).ownBlock ∧ some k_ ≠ ((.slice Ao120 t239.length co120) : Value).ownBlock) (.slice Ao34 t220.length co34) t234) ∧ Aside0 (Kd.R (Kd.int .i64) 3 wc w.heap.size (fun k_ => some k_ ≠ ((.slice Ao22 t211.length co22) : Value).ownBlock ∧ some k_ ≠ ((.slice Ao28 t231.length co28) : Value).ownBlock ∧ some k_ ≠ ((.slice Ao34 t220.length co34) : Value).ownBlock) (.slice Ao120 t239.length co120) t239) ∧ Aside0 (wc.heap[gb206]? = some (.cells #[(.slice A0_0 l0_0.length c0_0)] 24 (0, 0))) ∧ Aside0 (wc.heap[gb215]? = some (.cells #[(.slice Ao22 t211.length co22)] 27 (0, 0))) ∧ Aside0 (wc.heap[gb219]? = some (.cells #[(.slice Ao28 t231.length co28)] 27 (0, 0))) ∧ Aside0 (wc.heap[gb224]? = some (.cells #[(.slice Ao34 t220.length co34)] 27 (0, 0))) ∧ Aside0 (wc.heap[gb243]? = some (.cells #[(.slice Ao120 t239.length co120)] 27 (0, 0))) ∧ Aside0 (Below w.heap.size w wc))
                      case first =>
                        have H := HC105.out
                        clear HC105
                        replace H := Option.bind_eq_some_iff.mp H
                        obtain ⟨t244, A1260, H⟩ := H
                        replace H : (if t244 = true then (laws_FnExactAddAt.j2 kj61 t233 (t242 != t214) t234) else (laws_FnExactAddAt.j2 kj61 t233 true t234)) = some r := H
                        have A126 := Aside0.mk A1260
                        clear A1260
                        by_cases c127 : t244 = true
                        · subst c127
                          have H1 : (laws_FnExactAddAt.j2 kj61 t233 (t242 != t214) t234) = some r := by rw [if_pos rfl] at H; exact H
                          clear H
                          have H := H1
                          clear H1
                          have H' := Aside0.mk H
                          clear H
                          have hnb128 := NB243_206.out
                          have hnc128 := NB206_243.out
                          have hnb129 := NB243_215.out
                          have hnc129 := NB215_243.out
                          have hnb130 := NB243_219.out
                          have hnc130 := NB219_243.out
                          have hnb131 := NB243_224.out
                          have hnc131 := NB224_243.out
                          have hcz132_0 : w119.cell? ⟨gb243, 0, none⟩ = some (.slice none 0 0) := (blk_cell BK243.out 0).trans rfl
                          have hfz132_0 := blk_frozen BK243.out 0
                          have hnb133 := NB215_206.out
                          have hnc133 := NB206_215.out
                          have hnb134 := NB215_219.out
                          have hnc134 := NB219_215.out
                          have hnb135 := NB215_224.out
                          have hnc135 := NB224_215.out
                          have hcz136_0 : w119.cell? ⟨gb215, 0, none⟩ = some (.slice Ao22 t211.length co22) := (blk_cell BK215.out 0).trans rfl
                          have hfz136_0 := blk_frozen BK215.out 0
                          go_wp2_with (first | ((with_reducible refine gate_callee (f := 19) rfl ?_); refine goesL_ (some 91) rfl rfl Try.func19 (by kernel_rfl) rfl #[.agg #[.slice Ao120 t239.length co120], .agg #[.slice Ao22 t211.length co22]] rfl (by (try simp only [List.map_toArray, List.map_cons, List.map_nil]); first | done | rfl | (simp only [List.length_drop, List.length_take]; rfl)) ?_; (with_reducible refine (laws_eqSums.calls kj61 _ _ t239 _ _ t211 true _ ?side1 ?side2 ?side3 ?side4 A126.out).mono ?_); (case side1 => refine (Kd.R_reads' (e := 3) (base := w.heap.size) (ok := fun k_ => ((((True ∧ some k_ ≠ (.slice Ao22 t211.length co22 : Value).ownBlock) ∧ some k_ ≠ (.slice Ao28 t231.length co28 : Value).ownBlock) ∧ some k_ ≠ (.slice Ao34 t220.length co34 : Value).ownBlock) ∧ some k_ ≠ (.slice Ao117 t236.length co117 : Value).ownBlock)) (n := t239.length) (c := co120) ?_).2.2; exact (by (with_reducible repeat (first | apply Kd.R_alloc | apply Kd.R_drewN | apply Kd.R_drew)); exact (Kd.R_mono (Kd.R_far (p := ⟨gb243, 0, none⟩) (Kd.R_types HO241.out BK243.out (by decide)) (fun _ hk => hk.2) (.slice Ao120 t239.length co120)) (fun _ h_ => h_.1)))); (case side2 => exact (Kd.R_reads' HO241.out).2.1); (case side3 => refine (Kd.R_reads' (e := 3) (base := w.heap.size) (ok := fun k_ => (((some k_ ≠ (.slice Ao28 t231.length co28 : Value).ownBlock ∧ some k_ ≠ (.slice Ao34 t220.length co34 : Value).ownBlock) ∧ some k_ ≠ (.slice Ao117 t236.length co117 : Value).ownBlock) ∧ some k_ ≠ (.slice Ao120 t239.length co120 : Value).ownBlock)) (n := t211.length) (c := co22) ?_).2.2; exact (by (with_reducible repeat (first | apply Kd.R_alloc | apply Kd.R_drewN | apply Kd.R_drew)); exact (Kd.R_mono (Kd.R_far (p := ⟨gb243, 0, none⟩) (Kd.R_types HO_216000.out BK243.out (by decide)) (fun _ hk => hk.2) (.slice Ao120 t239.length co120)) (fun _ h_ => h_.1)))); (case side4 => exact (Kd.R_reads' HO_216000.out).2.1); rintro e w137 ⟨rfl, hb⟩; refine ⟨_, rfl, ?_⟩; have n0_ := Aside0.mk (Kd.R_below (by (with_reducible repeat (first | apply Kd.R_alloc | apply Kd.R_drewN | apply Kd.R_drew)); exact (Kd.R_mono (Kd.R_far (p := ⟨gb243, 0, none⟩) (Kd.R_types HO_216000.out BK243.out (by decide)) (fun _ hk => hk.2) (.slice Ao120 t239.length co120)) (fun _ h_ => h_.1))) hb); have n1_ := Aside0.mk (Kd.R_below (by (with_reducible repeat (first | apply Kd.R_alloc | apply Kd.R_drewN | apply Kd.R_drew)); exact (Kd.R_mono (Kd.R_far (p := ⟨gb243, 0, none⟩) (Kd.R_types HO_220000.out BK243.out (by decide)) (fun _ hk => hk.2) (.slice Ao120 t239.length co120)) (fun _ h_ => h_.1))) hb); have n2_ := Aside0.mk (Kd.R_below (by (with_reducible repeat (first | apply Kd.R_alloc | apply Kd.R_drewN | apply Kd.R_drew)); exact (Kd.R_mono (Kd.R_far (p := ⟨gb243, 0, none⟩) (Kd.R_types HO_225000.out BK243.out (by decide)) (fun _ hk => hk.2) (.slice Ao120 t239.length co120)) (fun _ h_ => h_.1))) hb); have n3_ := Aside0.mk (Kd.R_below (by (with_reducible repeat (first | apply Kd.R_alloc | apply Kd.R_drewN | apply Kd.R_drew)); exact (Kd.R_mono (Kd.R_far (p := ⟨gb243, 0, none⟩) (Kd.R_types HO238.out BK243.out (by decide)) (fun _ hk => hk.2) (.slice Ao120 t239.length co120)) (fun _ h_ => h_.1))) hb); have n4_ := Aside0.mk (Kd.R_below (by (with_reducible repeat (first | apply Kd.R_alloc | apply Kd.R_drewN | apply Kd.R_drew)); exact (Kd.R_mono (Kd.R_far (p := ⟨gb243, 0, none⟩) (Kd.R_types HO241.out BK243.out (by decide)) (fun _ hk => hk.2) (.slice Ao120 t239.length co120)) (fun _ h_ => h_.1))) hb); have n5_ := Aside0.mk (blk_below (g := gb206) (o := .cells #[.slice A0_0 l0_0.length c0_0] 24 (0, 0)) (by (with_reducible repeat (first | refine blk_drewN ?_ _ | refine blk_drew ?_ | refine blk_alloc ?_ _)); refine blk_far ?_ NB206_243.out _; (with_reducible repeat (first | refine blk_drewN ?_ _ | refine blk_drew ?_ | refine blk_alloc ?_ _)); exact BK206.out) hb); have n6_ := Aside0.mk (blk_below (g := gb215) (o := .cells #[.slice Ao22 t211.length co22] 27 (0, 0)) (by (with_reducible repeat (first | refine blk_drewN ?_ _ | refine blk_drew ?_ | refine blk_alloc ?_ _)); refine blk_far ?_ NB215_243.out _; (with_reducible repeat (first | refine blk_drewN ?_ _ | refine blk_drew ?_ | refine blk_alloc ?_ _)); exact BK215.out) hb); have n7_ := Aside0.mk (blk_below (g := gb219) (o := .cells #[.slice Ao28 t231.length co28] 27 (0, 0)) (by (with_reducible repeat (first | refine blk_drewN ?_ _ | refine blk_drew ?_ | refine blk_alloc ?_ _)); refine blk_far ?_ NB219_243.out _; (with_reducible repeat (first | refine blk_drewN ?_ _ | refine blk_drew ?_ | refine blk_alloc ?_ _)); exact BK219.out) hb); have n8_ := Aside0.mk (blk_below (g := gb224) (o := .cells #[.slice Ao34 t220.length co34] 27 (0, 0)) (by (with_reducible repeat (first | refine blk_drewN ?_ _ | refine blk_drew ?_ | refine blk_alloc ?_ _)); refine blk_far ?_ NB224_243.out _; (with_reducible repeat (first | refine blk_drewN ?_ _ | refine blk_drew ?_ | refine blk_alloc ?_ _)); exact BK224.out) hb); have n9_ := Aside0.mk (blk_below (g := gb243) (o := .cells #[.slice Ao120 t239.length co120] 27 (0, 0)) (by (with_reducible repeat (first | refine blk_drewN ?_ _ | refine blk_drew ?_ | refine blk_alloc ?_ _)); refine blk_put (cs := #[.slice none 0 0]) ?_ 0 _ rfl; (with_reducible repeat (first | refine blk_drewN ?_ _ | refine blk_drew ?_ | refine blk_alloc ?_ _)); exact BK243.out) hb); have n10_ := Aside0.mk (below_step (by repeat (first | (with_reducible first | exact HB.out | apply below_alloc | apply pw_below_drewN | apply below_drew1 | refine below_set ?_ GE206.out | refine below_set ?_ GE215.out | refine below_set ?_ GE219.out | refine below_set ?_ GE224.out | refine below_set ?_ GE243.out) | exact HB.out)) hb); clear HO_216000; clear HO_220000; clear HO_225000; clear HO238; clear HO241; clear BK206; clear BK215; clear BK219; clear BK224; clear BK243; clear HB; have HO_216000 := n0_; have HO_220000 := n1_; have HO_225000 := n2_; have HO238 := n3_; have HO241 := n4_; have BK206 := n5_; have BK215 := n6_; have BK219 := n7_; have BK224 := n8_; have BK243 := n9_; have HB := n10_; clear n0_ n1_ n2_ n3_ n4_ n5_ n6_ n7_ n8_ n9_ n10_; (try clear hb); (try clear hb2); (try clear hk); (try clear hi)))
                          go_meet
                          case rel => exact ⟨_, ((t242 != t214)), (by first | rfl | (simp; done) | (simp [*]; done)), H', ⟨by have := HJ12.out; have := HJ61.out; first | omega | exact Nat.le_refl _⟩, ⟨by (try simp only [hl220000_61]); (with_reducible repeat (first | apply Kd.R_alloc | apply Kd.R_drewN | apply Kd.R_drew)); exact Kd.R_mono HO_216000.out (fun _ hk => ⟨hk.1.1.1, ⟨hk.1.1.2, hk.2⟩⟩)⟩, ⟨by (try simp only [hl220000_61]); (with_reducible repeat (first | apply Kd.R_alloc | apply Kd.R_drewN | apply Kd.R_drew)); exact Kd.R_mono HO_220000.out (fun _ hk => ⟨hk.1.1.1, ⟨hk.1.1.2, hk.2⟩⟩)⟩, ⟨by (try simp only [hl220000_61]); (with_reducible repeat (first | apply Kd.R_alloc | apply Kd.R_drewN | apply Kd.R_drew)); exact Kd.R_mono HO_225000.out (fun _ hk => ⟨hk.1.1.1, ⟨hk.1.1.2, hk.2⟩⟩)⟩, ⟨by (try simp only [hl220000_61]); (with_reducible repeat (first | apply Kd.R_alloc | apply Kd.R_drewN | apply Kd.R_drew)); exact Kd.R_mono HO241.out (fun _ hk => ⟨hk.1.1.1.2, ⟨hk.1.1.2, hk.1.2⟩⟩)⟩, ⟨by (try simp only [hl220000_61]); (with_reducible repeat (first | refine blk_drewN ?_ _ | refine blk_drew ?_ | refine blk_alloc ?_ _)); exact BK206.out⟩, ⟨by (try simp only [hl220000_61]); (with_reducible repeat (first | refine blk_drewN ?_ _ | refine blk_drew ?_ | refine blk_alloc ?_ _)); exact BK215.out⟩, ⟨by (try simp only [hl220000_61]); (with_reducible repeat (first | refine blk_drewN ?_ _ | refine blk_drew ?_ | refine blk_alloc ?_ _)); exact BK219.out⟩, ⟨by (try simp only [hl220000_61]); (with_reducible repeat (first | refine blk_drewN ?_ _ | refine blk_drew ?_ | refine blk_alloc ?_ _)); exact BK224.out⟩, ⟨by (try simp only [hl220000_61]); (with_reducible repeat (first | refine blk_drewN ?_ _ | refine blk_drew ?_ | refine blk_alloc ?_ _)); exact BK243.out⟩, ⟨by repeat (first | (with_reducible first | exact HB.out | apply below_alloc | apply pw_below_drewN | apply below_drew1 | refine below_set ?_ GE206.out | refine below_set ?_ GE215.out | refine below_set ?_ GE219.out | refine below_set ?_ GE224.out | refine below_set ?_ GE243.out) | exact HB.out)⟩⟩
                        · replace c127 := Bool.eq_false_iff.mpr c127
                          subst c127
                          have H1 : (laws_FnExactAddAt.j2 kj61 t233 true t234) = some r := by rw [if_neg (show ¬ (false = true) by decide)] at H; exact H
                          clear H
                          have H := H1
                          clear H1
                          have H' := Aside0.mk H
                          clear H
                          have hnb138 := NB243_206.out
                          have hnc138 := NB206_243.out
                          have hnb139 := NB243_215.out
                          have hnc139 := NB215_243.out
                          have hnb140 := NB243_219.out
                          have hnc140 := NB219_243.out
                          have hnb141 := NB243_224.out
                          have hnc141 := NB224_243.out
                          have hcz142_0 : w119.cell? ⟨gb243, 0, none⟩ = some (.slice none 0 0) := (blk_cell BK243.out 0).trans rfl
                          have hfz142_0 := blk_frozen BK243.out 0
                          have hnb143 := NB215_206.out
                          have hnc143 := NB206_215.out
                          have hnb144 := NB215_219.out
                          have hnc144 := NB219_215.out
                          have hnb145 := NB215_224.out
                          have hnc145 := NB224_215.out
                          have hcz146_0 : w119.cell? ⟨gb215, 0, none⟩ = some (.slice Ao22 t211.length co22) := (blk_cell BK215.out 0).trans rfl
                          have hfz146_0 := blk_frozen BK215.out 0
                          go_wp2_with (first | ((with_reducible refine gate_callee (f := 19) rfl ?_); refine goesL_ (some 91) rfl rfl Try.func19 (by kernel_rfl) rfl #[.agg #[.slice Ao120 t239.length co120], .agg #[.slice Ao22 t211.length co22]] rfl (by (try simp only [List.map_toArray, List.map_cons, List.map_nil]); first | done | rfl | (simp only [List.length_drop, List.length_take]; rfl)) ?_; (with_reducible refine (laws_eqSums.calls kj61 _ _ t239 _ _ t211 false _ ?side1 ?side2 ?side3 ?side4 A126.out).mono ?_); (case side1 => refine (Kd.R_reads' (e := 3) (base := w.heap.size) (ok := fun k_ => ((((True ∧ some k_ ≠ (.slice Ao22 t211.length co22 : Value).ownBlock) ∧ some k_ ≠ (.slice Ao28 t231.length co28 : Value).ownBlock) ∧ some k_ ≠ (.slice Ao34 t220.length co34 : Value).ownBlock) ∧ some k_ ≠ (.slice Ao117 t236.length co117 : Value).ownBlock)) (n := t239.length) (c := co120) ?_).2.2; exact (by (with_reducible repeat (first | apply Kd.R_alloc | apply Kd.R_drewN | apply Kd.R_drew)); exact (Kd.R_mono (Kd.R_far (p := ⟨gb243, 0, none⟩) (Kd.R_types HO241.out BK243.out (by decide)) (fun _ hk => hk.2) (.slice Ao120 t239.length co120)) (fun _ h_ => h_.1)))); (case side2 => exact (Kd.R_reads' HO241.out).2.1); (case side3 => refine (Kd.R_reads' (e := 3) (base := w.heap.size) (ok := fun k_ => (((some k_ ≠ (.slice Ao28 t231.length co28 : Value).ownBlock ∧ some k_ ≠ (.slice Ao34 t220.length co34 : Value).ownBlock) ∧ some k_ ≠ (.slice Ao117 t236.length co117 : Value).ownBlock) ∧ some k_ ≠ (.slice Ao120 t239.length co120 : Value).ownBlock)) (n := t211.length) (c := co22) ?_).2.2; exact (by (with_reducible repeat (first | apply Kd.R_alloc | apply Kd.R_drewN | apply Kd.R_drew)); exact (Kd.R_mono (Kd.R_far (p := ⟨gb243, 0, none⟩) (Kd.R_types HO_216000.out BK243.out (by decide)) (fun _ hk => hk.2) (.slice Ao120 t239.length co120)) (fun _ h_ => h_.1)))); (case side4 => exact (Kd.R_reads' HO_216000.out).2.1); rintro e w147 ⟨rfl, hb⟩; refine ⟨_, rfl, ?_⟩; have n0_ := Aside0.mk (Kd.R_below (by (with_reducible repeat (first | apply Kd.R_alloc | apply Kd.R_drewN | apply Kd.R_drew)); exact (Kd.R_mono (Kd.R_far (p := ⟨gb243, 0, none⟩) (Kd.R_types HO_216000.out BK243.out (by decide)) (fun _ hk => hk.2) (.slice Ao120 t239.length co120)) (fun _ h_ => h_.1))) hb); have n1_ := Aside0.mk (Kd.R_below (by (with_reducible repeat (first | apply Kd.R_alloc | apply Kd.R_drewN | apply Kd.R_drew)); exact (Kd.R_mono (Kd.R_far (p := ⟨gb243, 0, none⟩) (Kd.R_types HO_220000.out BK243.out (by decide)) (fun _ hk => hk.2) (.slice Ao120 t239.length co120)) (fun _ h_ => h_.1))) hb); have n2_ := Aside0.mk (Kd.R_below (by (with_reducible repeat (first | apply Kd.R_alloc | apply Kd.R_drewN | apply Kd.R_drew)); exact (Kd.R_mono (Kd.R_far (p := ⟨gb243, 0, none⟩) (Kd.R_types HO_225000.out BK243.out (by decide)) (fun _ hk => hk.2) (.slice Ao120 t239.length co120)) (fun _ h_ => h_.1))) hb); have n3_ := Aside0.mk (Kd.R_below (by (with_reducible repeat (first | apply Kd.R_alloc | apply Kd.R_drewN | apply Kd.R_drew)); exact (Kd.R_mono (Kd.R_far (p := ⟨gb243, 0, none⟩) (Kd.R_types HO238.out BK243.out (by decide)) (fun _ hk => hk.2) (.slice Ao120 t239.length co120)) (fun _ h_ => h_.1))) hb); have n4_ := Aside0.mk (Kd.R_below (by (with_reducible repeat (first | apply Kd.R_alloc | apply Kd.R_drewN | apply Kd.R_drew)); exact (Kd.R_mono (Kd.R_far (p := ⟨gb243, 0, none⟩) (Kd.R_types HO241.out BK243.out (by decide)) (fun _ hk => hk.2) (.slice Ao120 t239.length co120)) (fun _ h_ => h_.1))) hb); have n5_ := Aside0.mk (blk_below (g := gb206) (o := .cells #[.slice A0_0 l0_0.length c0_0] 24 (0, 0)) (by (with_reducible repeat (first | refine blk_drewN ?_ _ | refine blk_drew ?_ | refine blk_alloc ?_ _)); refine blk_far ?_ NB206_243.out _; (with_reducible repeat (first | refine blk_drewN ?_ _ | refine blk_drew ?_ | refine blk_alloc ?_ _)); exact BK206.out) hb); have n6_ := Aside0.mk (blk_below (g := gb215) (o := .cells #[.slice Ao22 t211.length co22] 27 (0, 0)) (by (with_reducible repeat (first | refine blk_drewN ?_ _ | refine blk_drew ?_ | refine blk_alloc ?_ _)); refine blk_far ?_ NB215_243.out _; (with_reducible repeat (first | refine blk_drewN ?_ _ | refine blk_drew ?_ | refine blk_alloc ?_ _)); exact BK215.out) hb); have n7_ := Aside0.mk (blk_below (g := gb219) (o := .cells #[.slice Ao28 t231.length co28] 27 (0, 0)) (by (with_reducible repeat (first | refine blk_drewN ?_ _ | refine blk_drew ?_ | refine blk_alloc ?_ _)); refine blk_far ?_ NB219_243.out _; (with_reducible repeat (first | refine blk_drewN ?_ _ | refine blk_drew ?_ | refine blk_alloc ?_ _)); exact BK219.out) hb); have n8_ := Aside0.mk (blk_below (g := gb224) (o := .cells #[.slice Ao34 t220.length co34] 27 (0, 0)) (by (with_reducible repeat (first | refine blk_drewN ?_ _ | refine blk_drew ?_ | refine blk_alloc ?_ _)); refine blk_far ?_ NB224_243.out _; (with_reducible repeat (first | refine blk_drewN ?_ _ | refine blk_drew ?_ | refine blk_alloc ?_ _)); exact BK224.out) hb); have n9_ := Aside0.mk (blk_below (g := gb243) (o := .cells #[.slice Ao120 t239.length co120] 27 (0, 0)) (by (with_reducible repeat (first | refine blk_drewN ?_ _ | refine blk_drew ?_ | refine blk_alloc ?_ _)); refine blk_put (cs := #[.slice none 0 0]) ?_ 0 _ rfl; (with_reducible repeat (first | refine blk_drewN ?_ _ | refine blk_drew ?_ | refine blk_alloc ?_ _)); exact BK243.out) hb); have n10_ := Aside0.mk (below_step (by repeat (first | (with_reducible first | exact HB.out | apply below_alloc | apply pw_below_drewN | apply below_drew1 | refine below_set ?_ GE206.out | refine below_set ?_ GE215.out | refine below_set ?_ GE219.out | refine below_set ?_ GE224.out | refine below_set ?_ GE243.out) | exact HB.out)) hb); clear HO_216000; clear HO_220000; clear HO_225000; clear HO238; clear HO241; clear BK206; clear BK215; clear BK219; clear BK224; clear BK243; clear HB; have HO_216000 := n0_; have HO_220000 := n1_; have HO_225000 := n2_; have HO238 := n3_; have HO241 := n4_; have BK206 := n5_; have BK215 := n6_; have BK219 := n7_; have BK224 := n8_; have BK243 := n9_; have HB := n10_; clear n0_ n1_ n2_ n3_ n4_ n5_ n6_ n7_ n8_ n9_ n10_; (try clear hb); (try clear hb2); (try clear hk); (try clear hi)))
                          go_meet
                          case rel => exact ⟨_, (true), (by first | rfl | (simp; done) | (simp [*]; done)), H', ⟨by have := HJ12.out; have := HJ61.out; first | omega | exact Nat.le_refl _⟩, ⟨by (try simp only [hl220000_61]); (with_reducible repeat (first | apply Kd.R_alloc | apply Kd.R_drewN | apply Kd.R_drew)); exact Kd.R_mono HO_216000.out (fun _ hk => ⟨hk.1.1.1, ⟨hk.1.1.2, hk.2⟩⟩)⟩, ⟨by (try simp only [hl220000_61]); (with_reducible repeat (first | apply Kd.R_alloc | apply Kd.R_drewN | apply Kd.R_drew)); exact Kd.R_mono HO_220000.out (fun _ hk => ⟨hk.1.1.1, ⟨hk.1.1.2, hk.2⟩⟩)⟩, ⟨by (try simp only [hl220000_61]); (with_reducible repeat (first | apply Kd.R_alloc | apply Kd.R_drewN | apply Kd.R_drew)); exact Kd.R_mono HO_225000.out (fun _ hk => ⟨hk.1.1.1, ⟨hk.1.1.2, hk.2⟩⟩)⟩, ⟨by (try simp only [hl220000_61]); (with_reducible repeat (first | apply Kd.R_alloc | apply Kd.R_drewN | apply Kd.R_drew)); exact Kd.R_mono HO241.out (fun _ hk => ⟨hk.1.1.1.2, ⟨hk.1.1.2, hk.1.2⟩⟩)⟩, ⟨by (try simp only [hl220000_61]); (with_reducible repeat (first | refine blk_drewN ?_ _ | refine blk_drew ?_ | refine blk_alloc ?_ _)); exact BK206.out⟩, ⟨by (try simp only [hl220000_61]); (with_reducible repeat (first | refine blk_drewN ?_ _ | refine blk_drew ?_ | refine blk_alloc ?_ _)); exact BK215.out⟩, ⟨by (try simp only [hl220000_61]); (with_reducible repeat (first | refine blk_drewN ?_ _ | refine blk_drew ?_ | refine blk_alloc ?_ _)); exact BK219.out⟩, ⟨by (try simp only [hl220000_61]); (with_reducible repeat (first | refine blk_drewN ?_ _ | refine blk_drew ?_ | refine blk_alloc ?_ _)); exact BK224.out⟩, ⟨by (try simp only [hl220000_61]); (with_reducible repeat (first | refine blk_drewN ?_ _ | refine blk_drew ?_ | refine blk_alloc ?_ _)); exact BK243.out⟩, ⟨by repeat (first | (with_reducible first | exact HB.out | apply below_alloc | apply pw_below_drewN | apply below_drew1 | refine below_set ?_ GE206.out | refine below_set ?_ GE215.out | refine below_set ?_ GE219.out | refine below_set ?_ GE224.out | refine below_set ?_ GE243.out) | exact HB.out)⟩⟩
                      case rest =>
                        clear HC105
                        try clear c1
                        try clear c2
                        try clear p2
                        try clear c3
                        try clear c4
                        try clear c5
                        try clear c5b0
                        try clear c6
                        try clear c7
                        try clear c8
                        try clear c9
                        try clear c10
                        try clear c11
                        try clear c12
                        try clear c13
                        try clear c14
                        try clear c15
                        try clear c17
                        try clear c19
                        try clear c23
                        try clear c27
                        try clear c29
                        try clear c30
                        try clear c32
                        try clear c33
                        try clear c34
                        try clear c35
                        try clear c36
                        try clear c37
                        try clear c40
                        try clear c41
                        try clear c42
                        try clear c43
                        try clear c45
                        try clear c46
                        try clear c49
                        try clear c50
                        try clear c51
                        try clear c53
                        try clear c54
                        try clear c57
                        try clear c60
                        try clear c67
                        try clear c68
                        try clear c69
                        try clear c72
                        try clear c72b0
                        try clear c74
                        try clear c75
                        try clear c76
                        try clear c77
                        try clear c79
                        try clear c80
                        try clear c83
                        try clear c84
                        try clear c85
                        try clear c87
                        try clear c88
                        try clear c91
                        try clear c94
                        try clear c94b0
                        try clear c95
                        try clear c96
                        try clear c97
                        try clear c102
                        try clear c102b0
                        try clear c102b1
                        try clear c106
                        try clear c107
                        try clear c108
                        try clear c113
                        try clear c114
                        try clear c121
                        try clear c122
                        try clear c123
                        try clear c124
                        try clear c127
                        try clear c128
                        try clear c129
                        try clear c130
                        try clear c131
                        try clear c133
                        try clear c134
                        try clear c135
                        try clear c138
                        try clear c139
                        try clear c140
                        try clear c141
                        try clear c143
                        try clear c144
                        try clear c145
                        try clear hcz100_0
                        try clear hcz109_0
                        try clear hcz111_0
                        try clear hcz115_0
                        try clear hcz125_0
                        try clear hcz132_0
                        try clear hcz136_0
                        try clear hcz142_0
                        try clear hcz146_0
                        try clear hcz15_0
                        try clear hcz17_0
                        try clear hcz24_0
                        try clear hcz25_0
                        try clear hcz31_0
                        try clear hcz38_0
                        try clear hcz44_0
                        try clear hcz47_0
                        try clear hcz52_0
                        try clear hcz55_0
                        try clear hcz70_0
                        try clear hcz78_0
                        try clear hcz7_0
                        try clear hcz81_0
                        try clear hcz86_0
                        try clear hcz89_0
                        try clear hcz98_0
                        try clear hfz100_0
                        try clear hfz109_0
                        try clear hfz111_0
                        try clear hfz115_0
                        try clear hfz125_0
                        try clear hfz132_0
                        try clear hfz136_0
                        try clear hfz142_0
                        try clear hfz146_0
                        try clear hfz15_0
                        try clear hfz17_0
                        try clear hfz24_0
                        try clear hfz25_0
                        try clear hfz31_0
                        try clear hfz38_0
                        try clear hfz44_0
                        try clear hfz47_0
                        try clear hfz52_0
                        try clear hfz55_0
                        try clear hfz70_0
                        try clear hfz78_0
                        try clear hfz7_0
                        try clear hfz81_0
                        try clear hfz86_0
                        try clear hfz89_0
                        try clear hfz98_0
                        try clear p2
                        obtain ⟨kq, x97_104, rfl, HA, HJ104, HO_216000, HO_220000, HO_225000, HO_244000, BK206, BK215, BK219, BK224, BK243, HB⟩ := hcut
                        have hl225000_104 := (Kd.R_reads' HO_225000.out).1
                        rw [hl225000_104] at HO_225000
                        (try simp only [hl225000_104])
                        (try simp only [hl225000_104] at BK206)
                        (try simp only [hl225000_104] at BK215)
                        (try simp only [hl225000_104] at BK219)
                        (try simp only [hl225000_104] at BK224)
                        (try simp only [hl225000_104] at BK243)
                        (try simp only [hl225000_104] at HO_216000)
                        (try simp only [hl225000_104] at HO_220000)
                        (try simp only [hl225000_104] at HO_244000)
                        cases kq with
                        | zero => exact absurd HA.out (by simp [laws_FnExactAddAt.j2])
                        | succ kj104 =>
                          have H := HA.out
                          clear HA
                          simp only [laws_FnExactAddAt.j2] at H
                          by_cases c148 : x97_104 = true
                          · subst c148
                            have H1 : (some false) = some r := by rw [if_pos rfl] at H; exact H
                            clear H
                            have H := H1
                            clear H1
                            obtain rfl := Option.some.inj H
                            go_wp2
                            go_ret
                            exact ⟨by first | rfl | (simp [errW_none, errW_some] <;> rfl) | (simp [*, errW_none, errW_some] <;> rfl), by repeat (first | (with_reducible first | exact HB.out | apply below_alloc | apply pw_below_drewN | apply below_drew1 | refine below_set ?_ GE206.out | refine below_set ?_ GE215.out | refine below_set ?_ GE219.out | refine below_set ?_ GE224.out | refine below_set ?_ GE243.out) | exact HB.out)⟩
                          · replace c148 := Bool.eq_false_iff.mpr c148
                            subst c148
                            have H1 : ((laws_heldSums.f kj104 t234 1).bind fun t245 => (if t245 < 0 then (some false) else (if t245 = t233 then (some true) else (some false)))) = some r := by rw [if_neg (show ¬ (false = true) by decide)] at H; exact H
                            clear H
                            have H := H1
                            clear H1
                            replace H := Option.bind_eq_some_iff.mp H
                            obtain ⟨t245, A1490, H⟩ := H
                            replace H : (if t245 < 0 then (some false) else (if t245 = t233 then (some true) else (some false))) = some r := H
                            have A149 := Aside0.mk A1490
                            clear A1490
                            by_cases c150 : t245 < 0
                            · rw [if_pos c150] at H
                              have c150b0 : decide (t245 < 0) = true := decide_eq_true c150
                              clear c150
                              obtain rfl := Option.some.inj H
                              have hnb151 := NB224_206.out
                              have hnc151 := NB206_224.out
                              have hnb152 := NB224_215.out
                              have hnc152 := NB215_224.out
                              have hnb153 := NB224_219.out
                              have hnc153 := NB219_224.out
                              have hnb154 := NB224_243.out
                              have hnc154 := NB243_224.out
                              have hcz155_0 : wc.cell? ⟨gb224, 0, none⟩ = some (.slice Ao34 t234.length co34) := (blk_cell BK224.out 0).trans rfl
                              have hfz155_0 := blk_frozen BK224.out 0
                              go_wp2_with (first | ((with_reducible refine gate_callee (f := 34) rfl ?_); refine goesL_ (some 100) rfl rfl Try.func34 (by kernel_rfl) rfl #[.agg #[.slice Ao34 t234.length co34], .int .i64 1] rfl (by (try simp only [List.map_toArray, List.map_cons, List.map_nil]); first | done | rfl | (simp only [List.length_drop, List.length_take]; rfl)) ?_; (with_reducible refine (laws_heldSums.calls kj104 _ _ t234 1 t245 _ ?side1 ?side2 A149.out).mono ?_); (case side1 => repeat (first | exact (Kd.R_reads' HO_225000.out).2.2 | (with_reducible refine Kd.C_alloc ?_ _) | (with_reducible refine Kd.C_drewN ?_ _) | (with_reducible refine Kd.C_drew ?_))); (case side2 => exact (Kd.R_reads' HO_225000.out).2.1); rintro e w156 ⟨rfl, hb⟩; refine ⟨_, rfl, ?_⟩; have n0_ := Aside0.mk (Kd.R_below (by (with_reducible repeat (first | apply Kd.R_alloc | apply Kd.R_drewN | apply Kd.R_drew)); exact HO_216000.out) hb); have n1_ := Aside0.mk (Kd.R_below (by (with_reducible repeat (first | apply Kd.R_alloc | apply Kd.R_drewN | apply Kd.R_drew)); exact HO_220000.out) hb); have n2_ := Aside0.mk (Kd.R_below (by (with_reducible repeat (first | apply Kd.R_alloc | apply Kd.R_drewN | apply Kd.R_drew)); exact HO_225000.out) hb); have n3_ := Aside0.mk (Kd.R_below (by (with_reducible repeat (first | apply Kd.R_alloc | apply Kd.R_drewN | apply Kd.R_drew)); exact HO_244000.out) hb); have n4_ := Aside0.mk (blk_below (g := gb206) (o := .cells #[.slice A0_0 l0_0.length c0_0] 24 (0, 0)) (by (with_reducible repeat (first | refine blk_drewN ?_ _ | refine blk_drew ?_ | refine blk_alloc ?_ _)); exact BK206.out) hb); have n5_ := Aside0.mk (blk_below (g := gb215) (o := .cells #[.slice Ao22 t211.length co22] 27 (0, 0)) (by (with_reducible repeat (first | refine blk_drewN ?_ _ | refine blk_drew ?_ | refine blk_alloc ?_ _)); exact BK215.out) hb); have n6_ := Aside0.mk (blk_below (g := gb219) (o := .cells #[.slice Ao28 t231.length co28] 27 (0, 0)) (by (with_reducible repeat (first | refine blk_drewN ?_ _ | refine blk_drew ?_ | refine blk_alloc ?_ _)); exact BK219.out) hb); have n7_ := Aside0.mk (blk_below (g := gb224) (o := .cells #[.slice Ao34 t234.length co34] 27 (0, 0)) (by (with_reducible repeat (first | refine blk_drewN ?_ _ | refine blk_drew ?_ | refine blk_alloc ?_ _)); exact BK224.out) hb); have n8_ := Aside0.mk (blk_below (g := gb243) (o := .cells #[.slice Ao120 t239.length co120] 27 (0, 0)) (by (with_reducible repeat (first | refine blk_drewN ?_ _ | refine blk_drew ?_ | refine blk_alloc ?_ _)); exact BK243.out) hb); have n9_ := Aside0.mk (below_step (by repeat (first | (with_reducible first | exact HB.out | apply below_alloc | apply pw_below_drewN | apply below_drew1 | refine below_set ?_ GE206.out | refine below_set ?_ GE215.out | refine below_set ?_ GE219.out | refine below_set ?_ GE224.out | refine below_set ?_ GE243.out) | exact HB.out)) hb); clear HO_216000; clear HO_220000; clear HO_225000; clear HO_244000; clear BK206; clear BK215; clear BK219; clear BK224; clear BK243; clear HB; have HO_216000 := n0_; have HO_220000 := n1_; have HO_225000 := n2_; have HO_244000 := n3_; have BK206 := n4_; have BK215 := n5_; have BK219 := n6_; have BK224 := n7_; have BK243 := n8_; have HB := n9_; clear n0_ n1_ n2_ n3_ n4_ n5_ n6_ n7_ n8_ n9_; (try clear hb); (try clear hb2); (try clear hk); (try clear hi)))
                              go_ret
                              exact ⟨by first | rfl | (simp [errW_none, errW_some] <;> rfl) | (simp [*, errW_none, errW_some] <;> rfl), by repeat (first | (with_reducible first | exact HB.out | apply below_alloc | apply pw_below_drewN | apply below_drew1 | refine below_set ?_ GE206.out | refine below_set ?_ GE215.out | refine below_set ?_ GE219.out | refine below_set ?_ GE224.out | refine below_set ?_ GE243.out) | exact HB.out)⟩
                            · rw [if_neg c150] at H
                              have c150b0 : decide (t245 < 0) = false := decide_eq_false c150
                              clear c150
                              by_cases c157 : t245 = t233
                              · rw [if_pos c157] at H
                                have c157b0 : (t245 == t233) = true := beq_iff_eq.mpr c157
                                have c157b1 : (t245 != t233) = false := bne_eq_false_iff_eq.mpr c157
                                clear c157
                                obtain rfl := Option.some.inj H
                                have hnb158 := NB224_206.out
                                have hnc158 := NB206_224.out
                                have hnb159 := NB224_215.out
                                have hnc159 := NB215_224.out
                                have hnb160 := NB224_219.out
                                have hnc160 := NB219_224.out
                                have hnb161 := NB224_243.out
                                have hnc161 := NB243_224.out
                                have hcz162_0 : wc.cell? ⟨gb224, 0, none⟩ = some (.slice Ao34 t234.length co34) := (blk_cell BK224.out 0).trans rfl
                                have hfz162_0 := blk_frozen BK224.out 0
                                go_wp2_with (first | ((with_reducible refine gate_callee (f := 34) rfl ?_); refine goesL_ (some 100) rfl rfl Try.func34 (by kernel_rfl) rfl #[.agg #[.slice Ao34 t234.length co34], .int .i64 1] rfl (by (try simp only [List.map_toArray, List.map_cons, List.map_nil]); first | done | rfl | (simp only [List.length_drop, List.length_take]; rfl)) ?_; (with_reducible refine (laws_heldSums.calls kj104 _ _ t234 1 t245 _ ?side1 ?side2 A149.out).mono ?_); (case side1 => repeat (first | exact (Kd.R_reads' HO_225000.out).2.2 | (with_reducible refine Kd.C_alloc ?_ _) | (with_reducible refine Kd.C_drewN ?_ _) | (with_reducible refine Kd.C_drew ?_))); (case side2 => exact (Kd.R_reads' HO_225000.out).2.1); rintro e w163 ⟨rfl, hb⟩; refine ⟨_, rfl, ?_⟩; have n0_ := Aside0.mk (Kd.R_below (by (with_reducible repeat (first | apply Kd.R_alloc | apply Kd.R_drewN | apply Kd.R_drew)); exact HO_216000.out) hb); have n1_ := Aside0.mk (Kd.R_below (by (with_reducible repeat (first | apply Kd.R_alloc | apply Kd.R_drewN | apply Kd.R_drew)); exact HO_220000.out) hb); have n2_ := Aside0.mk (Kd.R_below (by (with_reducible repeat (first | apply Kd.R_alloc | apply Kd.R_drewN | apply Kd.R_drew)); exact HO_225000.out) hb); have n3_ := Aside0.mk (Kd.R_below (by (with_reducible repeat (first | apply Kd.R_alloc | apply Kd.R_drewN | apply Kd.R_drew)); exact HO_244000.out) hb); have n4_ := Aside0.mk (blk_below (g := gb206) (o := .cells #[.slice A0_0 l0_0.length c0_0] 24 (0, 0)) (by (with_reducible repeat (first | refine blk_drewN ?_ _ | refine blk_drew ?_ | refine blk_alloc ?_ _)); exact BK206.out) hb); have n5_ := Aside0.mk (blk_below (g := gb215) (o := .cells #[.slice Ao22 t211.length co22] 27 (0, 0)) (by (with_reducible repeat (first | refine blk_drewN ?_ _ | refine blk_drew ?_ | refine blk_alloc ?_ _)); exact BK215.out) hb); have n6_ := Aside0.mk (blk_below (g := gb219) (o := .cells #[.slice Ao28 t231.length co28] 27 (0, 0)) (by (with_reducible repeat (first | refine blk_drewN ?_ _ | refine blk_drew ?_ | refine blk_alloc ?_ _)); exact BK219.out) hb); have n7_ := Aside0.mk (blk_below (g := gb224) (o := .cells #[.slice Ao34 t234.length co34] 27 (0, 0)) (by (with_reducible repeat (first | refine blk_drewN ?_ _ | refine blk_drew ?_ | refine blk_alloc ?_ _)); exact BK224.out) hb); have n8_ := Aside0.mk (blk_below (g := gb243) (o := .cells #[.slice Ao120 t239.length co120] 27 (0, 0)) (by (with_reducible repeat (first | refine blk_drewN ?_ _ | refine blk_drew ?_ | refine blk_alloc ?_ _)); exact BK243.out) hb); have n9_ := Aside0.mk (below_step (by repeat (first | (with_reducible first | exact HB.out | apply below_alloc | apply pw_below_drewN | apply below_drew1 | refine below_set ?_ GE206.out | refine below_set ?_ GE215.out | refine below_set ?_ GE219.out | refine below_set ?_ GE224.out | refine below_set ?_ GE243.out) | exact HB.out)) hb); clear HO_216000; clear HO_220000; clear HO_225000; clear HO_244000; clear BK206; clear BK215; clear BK219; clear BK224; clear BK243; clear HB; have HO_216000 := n0_; have HO_220000 := n1_; have HO_225000 := n2_; have HO_244000 := n3_; have BK206 := n4_; have BK215 := n5_; have BK219 := n6_; have BK224 := n7_; have BK243 := n8_; have HB := n9_; clear n0_ n1_ n2_ n3_ n4_ n5_ n6_ n7_ n8_ n9_; (try clear hb); (try clear hb2); (try clear hk); (try clear hi)))
                                go_ret
                                exact ⟨by first | rfl | (simp [errW_none, errW_some] <;> rfl) | (simp [*, errW_none, errW_some] <;> rfl), by repeat (first | (with_reducible first | exact HB.out | apply below_alloc | apply pw_below_drewN | apply below_drew1 | refine below_set ?_ GE206.out | refine below_set ?_ GE215.out | refine below_set ?_ GE219.out | refine below_set ?_ GE224.out | refine below_set ?_ GE243.out) | exact HB.out)⟩
                              · rw [if_neg c157] at H
                                have c157b0 : (t245 == t233) = false := beq_eq_false_iff_ne.mpr c157
                                have c157b1 : (t245 != t233) = true := bne_iff_ne.mpr c157
                                obtain rfl := Option.some.inj H
                                have hnb164 := NB224_206.out
                                have hnc164 := NB206_224.out
                                have hnb165 := NB224_215.out
                                have hnc165 := NB215_224.out
                                have hnb166 := NB224_219.out
                                have hnc166 := NB219_224.out
                                have hnb167 := NB224_243.out
                                have hnc167 := NB243_224.out
                                have hcz168_0 : wc.cell? ⟨gb224, 0, none⟩ = some (.slice Ao34 t234.length co34) := (blk_cell BK224.out 0).trans rfl
                                have hfz168_0 := blk_frozen BK224.out 0
                                go_wp2_with (first | ((with_reducible refine gate_callee (f := 34) rfl ?_); refine goesL_ (some 100) rfl rfl Try.func34 (by kernel_rfl) rfl #[.agg #[.slice Ao34 t234.length co34], .int .i64 1] rfl (by (try simp only [List.map_toArray, List.map_cons, List.map_nil]); first | done | rfl | (simp only [List.length_drop, List.length_take]; rfl)) ?_; (with_reducible refine (laws_heldSums.calls kj104 _ _ t234 1 t245 _ ?side1 ?side2 A149.out).mono ?_); (case side1 => repeat (first | exact (Kd.R_reads' HO_225000.out).2.2 | (with_reducible refine Kd.C_alloc ?_ _) | (with_reducible refine Kd.C_drewN ?_ _) | (with_reducible refine Kd.C_drew ?_))); (case side2 => exact (Kd.R_reads' HO_225000.out).2.1); rintro e w169 ⟨rfl, hb⟩; refine ⟨_, rfl, ?_⟩; have n0_ := Aside0.mk (Kd.R_below (by (with_reducible repeat (first | apply Kd.R_alloc | apply Kd.R_drewN | apply Kd.R_drew)); exact HO_216000.out) hb); have n1_ := Aside0.mk (Kd.R_below (by (with_reducible repeat (first | apply Kd.R_alloc | apply Kd.R_drewN | apply Kd.R_drew)); exact HO_220000.out) hb); have n2_ := Aside0.mk (Kd.R_below (by (with_reducible repeat (first | apply Kd.R_alloc | apply Kd.R_drewN | apply Kd.R_drew)); exact HO_225000.out) hb); have n3_ := Aside0.mk (Kd.R_below (by (with_reducible repeat (first | apply Kd.R_alloc | apply Kd.R_drewN | apply Kd.R_drew)); exact HO_244000.out) hb); have n4_ := Aside0.mk (blk_below (g := gb206) (o := .cells #[.slice A0_0 l0_0.length c0_0] 24 (0, 0)) (by (with_reducible repeat (first | refine blk_drewN ?_ _ | refine blk_drew ?_ | refine blk_alloc ?_ _)); exact BK206.out) hb); have n5_ := Aside0.mk (blk_below (g := gb215) (o := .cells #[.slice Ao22 t211.length co22] 27 (0, 0)) (by (with_reducible repeat (first | refine blk_drewN ?_ _ | refine blk_drew ?_ | refine blk_alloc ?_ _)); exact BK215.out) hb); have n6_ := Aside0.mk (blk_below (g := gb219) (o := .cells #[.slice Ao28 t231.length co28] 27 (0, 0)) (by (with_reducible repeat (first | refine blk_drewN ?_ _ | refine blk_drew ?_ | refine blk_alloc ?_ _)); exact BK219.out) hb); have n7_ := Aside0.mk (blk_below (g := gb224) (o := .cells #[.slice Ao34 t234.length co34] 27 (0, 0)) (by (with_reducible repeat (first | refine blk_drewN ?_ _ | refine blk_drew ?_ | refine blk_alloc ?_ _)); exact BK224.out) hb); have n8_ := Aside0.mk (blk_below (g := gb243) (o := .cells #[.slice Ao120 t239.length co120] 27 (0, 0)) (by (with_reducible repeat (first | refine blk_drewN ?_ _ | refine blk_drew ?_ | refine blk_alloc ?_ _)); exact BK243.out) hb); have n9_ := Aside0.mk (below_step (by repeat (first | (with_reducible first | exact HB.out | apply below_alloc | apply pw_below_drewN | apply below_drew1 | refine below_set ?_ GE206.out | refine below_set ?_ GE215.out | refine below_set ?_ GE219.out | refine below_set ?_ GE224.out | refine below_set ?_ GE243.out) | exact HB.out)) hb); clear HO_216000; clear HO_220000; clear HO_225000; clear HO_244000; clear BK206; clear BK215; clear BK219; clear BK224; clear BK243; clear HB; have HO_216000 := n0_; have HO_220000 := n1_; have HO_225000 := n2_; have HO_244000 := n3_; have BK206 := n4_; have BK215 := n5_; have BK219 := n6_; have BK224 := n7_; have BK243 := n8_; have HB := n9_; clear n0_ n1_ n2_ n3_ n4_ n5_ n6_ n7_ n8_ n9_; (try clear hb); (try clear hb2); (try clear hk); (try clear hi)))
                                go_ret
                                exact ⟨by first | rfl | (simp [errW_none, errW_some] <;> rfl) | (simp [*, errW_none, errW_some] <;> rfl), by repeat (first | (with_reducible first | exact HB.out | apply below_alloc | apply pw_below_drewN | apply below_drew1 | refine below_set ?_ GE206.out | refine below_set ?_ GE215.out | refine below_set ?_ GE219.out | refine below_set ?_ GE224.out | refine below_set ?_ GE243.out) | exact HB.out)⟩
                    · rw [if_neg c102] at H
                      have c102b0 : (t235 == t233) = false := beq_eq_false_iff_ne.mpr c102
                      have c102b1 : (t235 != t233) = true := bne_iff_ne.mpr c102
                      obtain rfl := Option.some.inj H
                      have hnb170 := NB224_206.out
                      have hnc170 := NB206_224.out
                      have hnb171 := NB224_215.out
                      have hnc171 := NB215_224.out
                      have hnb172 := NB224_219.out
                      have hnc172 := NB219_224.out
                      have hcz173_0 : wc.cell? ⟨gb224, 0, none⟩ = some (.slice Ao34 t220.length co34) := (blk_cell BK224.out 0).trans rfl
                      have hfz173_0 := blk_frozen BK224.out 0
                      go_wp2_with (first | ((with_reducible refine gate_callee (f := 27) rfl ?_); refine goesL_ (some 72) rfl rfl Try.func27 (by kernel_rfl) rfl #[.agg #[.slice Ao34 t220.length co34], .int .i64 1] rfl (by (try simp only [List.map_toArray, List.map_cons, List.map_nil]); first | done | rfl | (simp only [List.length_drop, List.length_take]; rfl)) ?_; (with_reducible refine (laws_markSums.calls kj61 (fun k_ => some k_ = (.slice Ao34 t220.length co34 : Value).ownBlock) (.slice Ao34 t220.length co34) t220 1 t233 t234 w _ ?side1 ?side2 A92.out).mono ?_); (case side1 => repeat (first | (with_reducible first | exact HB.out | apply below_alloc | apply pw_below_drewN | apply below_drew1 | refine below_set ?_ GE206.out | refine below_set ?_ GE215.out | refine below_set ?_ GE219.out | refine below_set ?_ GE224.out) | exact HB.out)); (case side2 => exact Kd.R_tight rfl HO_225000.out); rintro e w174 ⟨rfl, hy0, hb, hkp⟩; refine ⟨_, rfl, ?_⟩; have n0_ := Aside0.mk (Kd.R_mono (ok' := fun k_ => some k_ ≠ (.slice Ao28 t231.length co28 : Value).ownBlock ∧ some k_ ≠ (.slice Ao34 t220.length co34 : Value).ownBlock) (Kd.R_keptB (HO_216000.out) hkp (fun k_ hk_ hs_ => (hk_.2) hs_)) (fun k_ hk_ => ⟨hk_.1.1, hk_.1.2⟩)); have n1_ := Aside0.mk (Kd.R_mono (ok' := fun k_ => some k_ ≠ (.slice Ao22 t211.length co22 : Value).ownBlock ∧ some k_ ≠ (.slice Ao34 t220.length co34 : Value).ownBlock) (Kd.R_keptB (HO_220000.out) hkp (fun k_ hk_ hs_ => (hk_.2) hs_)) (fun k_ hk_ => ⟨hk_.1.1, hk_.1.2⟩)); have n2_ := Aside0.mk (Kd.R_reok rfl hy0 (fun k_ e_ => HO_225000.out.1 k_ e_)); have n3_ := Aside0.mk (blk_kept (by (with_reducible repeat (first | refine blk_drewN ?_ _ | refine blk_drew ?_ | refine blk_alloc ?_ _)); exact BK206.out) hkp (fun hs_ => (fun e_ => (Kd.R_ne HO_225000.out BK206.out (by decide)) e_) hs_)); have n4_ := Aside0.mk (blk_kept (by (with_reducible repeat (first | refine blk_drewN ?_ _ | refine blk_drew ?_ | refine blk_alloc ?_ _)); exact BK215.out) hkp (fun hs_ => (fun e_ => (Kd.R_ne HO_225000.out BK215.out (by decide)) e_) hs_)); have n5_ := Aside0.mk (blk_kept (by (with_reducible repeat (first | refine blk_drewN ?_ _ | refine blk_drew ?_ | refine blk_alloc ?_ _)); exact BK219.out) hkp (fun hs_ => (fun e_ => (Kd.R_ne HO_225000.out BK219.out (by decide)) e_) hs_)); have n6_ := Aside0.mk (blk_kept (by (with_reducible repeat (first | refine blk_drewN ?_ _ | refine blk_drew ?_ | refine blk_alloc ?_ _)); exact BK224.out) hkp (fun hs_ => (fun e_ => (Kd.R_ne HO_225000.out BK224.out (by decide)) e_) hs_)); have n7_ := Aside0.mk (hb); clear HO_216000; clear HO_220000; clear HO_225000; clear BK206; clear BK215; clear BK219; clear BK224; clear HB; have HO_216000 := n0_; have HO_220000 := n1_; have HO_225000 := n2_; have BK206 := n3_; have BK215 := n4_; have BK219 := n5_; have BK224 := n6_; have HB := n7_; clear n0_ n1_ n2_ n3_ n4_ n5_ n6_ n7_; (try clear hb); (try clear hkp); (try clear hy0); have hcz175_0 : w174.cell? ⟨gb224, 0, none⟩ = some (.slice Ao34 t220.length co34) := (blk_cell BK224.out 0).trans rfl; have hfz175_0 := blk_frozen BK224.out 0) | ((with_reducible refine gate_callee (f := 34) rfl ?_); refine goesL_ (some 75) rfl rfl Try.func34 (by kernel_rfl) rfl #[.agg #[.slice Ao34 t234.length co34], .int .i64 1] rfl (by (try simp only [List.map_toArray, List.map_cons, List.map_nil]); first | done | (rw [show t234.length = t220.length from (Kd.R_reads' HO_225000.out).1.symm] <;> rfl) | rfl | (simp only [List.length_drop, List.length_take]; rfl)) ?_; (with_reducible refine (laws_heldSums.calls kj61 _ _ t234 1 t235 _ ?side1 ?side2 A93.out).mono ?_); (case side1 => repeat (first | exact (Kd.R_reads' HO_225000.out).2.2 | (with_reducible refine Kd.C_alloc ?_ _) | (with_reducible refine Kd.C_drewN ?_ _) | (with_reducible refine Kd.C_drew ?_))); (case side2 => rw [show t234.length = t220.length from (Kd.R_reads' HO_225000.out).1.symm]; exact (Kd.R_reads' HO_225000.out).2.1); rintro e w176 ⟨rfl, hb⟩; refine ⟨_, rfl, ?_⟩; have n0_ := Aside0.mk (Kd.R_below (by (with_reducible repeat (first | apply Kd.R_alloc | apply Kd.R_drewN | apply Kd.R_drew)); exact HO_216000.out) hb); have n1_ := Aside0.mk (Kd.R_below (by (with_reducible repeat (first | apply Kd.R_alloc | apply Kd.R_drewN | apply Kd.R_drew)); exact HO_220000.out) hb); have n2_ := Aside0.mk (Kd.R_below (by (with_reducible repeat (first | apply Kd.R_alloc | apply Kd.R_drewN | apply Kd.R_drew)); exact HO_225000.out) hb); have n3_ := Aside0.mk (blk_below (g := gb206) (o := .cells #[.slice A0_0 l0_0.length c0_0] 24 (0, 0)) (by (with_reducible repeat (first | refine blk_drewN ?_ _ | refine blk_drew ?_ | refine blk_alloc ?_ _)); exact BK206.out) hb); have n4_ := Aside0.mk (blk_below (g := gb215) (o := .cells #[.slice Ao22 t211.length co22] 27 (0, 0)) (by (with_reducible repeat (first | refine blk_drewN ?_ _ | refine blk_drew ?_ | refine blk_alloc ?_ _)); exact BK215.out) hb); have n5_ := Aside0.mk (blk_below (g := gb219) (o := .cells #[.slice Ao28 t231.length co28] 27 (0, 0)) (by (with_reducible repeat (first | refine blk_drewN ?_ _ | refine blk_drew ?_ | refine blk_alloc ?_ _)); exact BK219.out) hb); have n6_ := Aside0.mk (blk_below (g := gb224) (o := .cells #[.slice Ao34 t220.length co34] 27 (0, 0)) (by (with_reducible repeat (first | refine blk_drewN ?_ _ | refine blk_drew ?_ | refine blk_alloc ?_ _)); exact BK224.out) hb); have n7_ := Aside0.mk (below_step (by repeat (first | (with_reducible first | exact HB.out | apply below_alloc | apply pw_below_drewN | apply below_drew1 | refine below_set ?_ GE206.out | refine below_set ?_ GE215.out | refine below_set ?_ GE219.out | refine below_set ?_ GE224.out) | exact HB.out)) hb); clear HO_216000; clear HO_220000; clear HO_225000; clear BK206; clear BK215; clear BK219; clear BK224; clear HB; have HO_216000 := n0_; have HO_220000 := n1_; have HO_225000 := n2_; have BK206 := n3_; have BK215 := n4_; have BK219 := n5_; have BK224 := n6_; have HB := n7_; clear n0_ n1_ n2_ n3_ n4_ n5_ n6_ n7_; (try clear hb); (try clear hb2); (try clear hk); (try clear hi)))
                      go_ret
                      exact ⟨by first | rfl | (simp [errW_none, errW_some] <;> rfl) | (simp [*, errW_none, errW_some] <;> rfl), by repeat (first | (with_reducible first | exact HB.out | apply below_alloc | apply pw_below_drewN | apply below_drew1 | refine below_set ?_ GE206.out | refine below_set ?_ GE215.out | refine below_set ?_ GE219.out | refine below_set ?_ GE224.out) | exact HB.out)⟩
          · replace c60 := Bool.eq_false_iff.mpr c60
            subst c60
            have H1 : (some false) = some r := by rw [if_neg (show ¬ (false = true) by decide)] at H; exact H
            clear H
            have H := H1
            clear H1
            obtain rfl := Option.some.inj H
            try go_wp2
            have n0_ := Aside0.mk (Kd.R_drew HO_216000.out)
            have n1_ := Aside0.mk (Kd.R_drew HO_220000.out)
            have n2_ := Aside0.mk (Kd.R_drew HO_225000.out)
            have n3_ := Aside0.mk (blk_drew BK206.out)
            have n4_ := Aside0.mk (blk_drew BK215.out)
            have n5_ := Aside0.mk (blk_drew BK219.out)
            have n6_ := Aside0.mk (blk_drew BK224.out)
            have n7_ := Aside0.mk (below_drew1 HB.out)
            clear HO_216000
            clear HO_220000
            clear HO_225000
            clear BK206
            clear BK215
            clear BK219
            clear BK224
            clear HB
            have HO_216000 := n0_
            have HO_220000 := n1_
            have HO_225000 := n2_
            have BK206 := n3_
            have BK215 := n4_
            have BK219 := n5_
            have BK224 := n6_
            have HB := n7_
            clear n0_ n1_ n2_ n3_ n4_ n5_ n6_ n7_
            refine start_ (n := 5) (S := fun w' => w'.cell? ⟨gb219, 0, none⟩ = some (.slice Ao28 t216.length co28) ∧ w'.cell? ⟨gb206, 0, none⟩ = some (.slice A0_0 l0_0.length c0_0)) (ds := []) #[false, false, false, false, false] (by kernel_rfl) rfl rfl ⟨(blk_cell BK219.out 0).trans rfl, (blk_cell BK206.out 0).trans rfl⟩ (fun hHeld => ?_)
            generalize wc.drew = w177 at HO_216000 HO_220000 HO_225000 BK206 BK215 BK219 BK224 HB hHeld ⊢
            refine take_ (i := 0) (N := some 49) (v := ?_) (a' := ?_) #[true, false, false, false, false] rfl rfl (by kernel_rfl) (fun _ _ _ h => h) (Or.inl ⟨by rfl, ?_⟩) hHeld ?_ ?_
            rotate_left
            · rintro w' ⟨s0, s1⟩
              go_simp
              with_reducible rfl
            rotate_left
            · simp only [Act.put, List.setIfInBounds_toArray, List.set_cons_zero, List.set_cons_succ, i64_w, i32_w]
              rfl
            refine take_ (i := 1) (N := some 50) (v := ?_) (a' := ?_) #[true, true, false, false, false] rfl rfl (by kernel_rfl) (fun _ _ _ h => h) (Or.inl ⟨by rfl, ?_⟩) hHeld ?_ ?_
            rotate_left
            · rintro w' ⟨s0, s1⟩
              go_simp
              with_reducible rfl
            rotate_left
            · simp only [Act.put, List.setIfInBounds_toArray, List.set_cons_zero, List.set_cons_succ, i64_w, i32_w]
              rfl
            refine one_ (i := 2) (N := some 51) #[true, true, true, false, false] rfl rfl (by kernel_rfl) (by decide) (fun K hK => ?_)
            refine goes_ Try.func17 (by kernel_rfl) rfl #[.agg #[.slice A0_0 l0_0.length c0_0]] (by rfl) rfl rfl (by (try simp only [List.map_toArray, List.map_cons, List.map_nil]); first | done | rfl | (simp only [List.length_drop, List.length_take]; rfl)) ?_
            with_reducible refine (laws_toSums.calls kj12 _ _ l0_0 t226 _ ?side1 ?side2 A58.out).mono ?_
            (case side1 => repeat (first | exact (Kd.C_below HR0_0.out HB.out) | (with_reducible refine Kd.C_alloc ?_ _) | (with_reducible refine Kd.C_drewN ?_ _) | (with_reducible refine Kd.C_drew ?_)))
            (case side2 => exact HC0_0.out)
            rintro e w178 ⟨v227, rfl, ho0, hb⟩
            refine ⟨_, rfl, ?_⟩
            have n0_ := Aside0.mk (Kd.R_elder' (by (with_reducible repeat (first | apply Kd.R_alloc | apply Kd.R_drewN | apply Kd.R_drew)); exact HO_216000.out) (Kd.R_base ho0) hb)
            have n1_ := Aside0.mk (Kd.R_elder' (by (with_reducible repeat (first | apply Kd.R_alloc | apply Kd.R_drewN | apply Kd.R_drew)); exact HO_220000.out) (Kd.R_base ho0) hb)
            have n2_ := Aside0.mk (Kd.R_elder' (by (with_reducible repeat (first | apply Kd.R_alloc | apply Kd.R_drewN | apply Kd.R_drew)); exact HO_225000.out) (Kd.R_base ho0) hb)
            have n3_ := Aside0.mk (Kd.R_lower (Kd.R_new' (Kd.R_new' (Kd.R_new' ho0 (Kd.R_lt (by (with_reducible repeat (first | apply Kd.R_alloc | apply Kd.R_drewN | apply Kd.R_drew)); exact HO_216000.out))) (Kd.R_lt (by (with_reducible repeat (first | apply Kd.R_alloc | apply Kd.R_drewN | apply Kd.R_drew)); exact HO_220000.out))) (Kd.R_lt (by (with_reducible repeat (first | apply Kd.R_alloc | apply Kd.R_drewN | apply Kd.R_drew)); exact HO_225000.out))) (below_size (by repeat (first | (with_reducible first | exact HB.out | apply below_alloc | apply pw_below_drewN | apply below_drew1 | refine below_set ?_ GE206.out | refine below_set ?_ GE215.out | refine below_set ?_ GE219.out | refine below_set ?_ GE224.out) | exact HB.out))))
            have n4_ := Aside0.mk (blk_below (g := gb206) (o := .cells #[.slice A0_0 l0_0.length c0_0] 24 (0, 0)) (by (with_reducible repeat (first | refine blk_drewN ?_ _ | refine blk_drew ?_ | refine blk_alloc ?_ _)); exact BK206.out) hb)
            have n5_ := Aside0.mk (blk_below (g := gb215) (o := .cells #[.slice Ao22 t211.length co22] 27 (0, 0)) (by (with_reducible repeat (first | refine blk_drewN ?_ _ | refine blk_drew ?_ | refine blk_alloc ?_ _)); exact BK215.out) hb)
            have n6_ := Aside0.mk (blk_below (g := gb219) (o := .cells #[.slice Ao28 t216.length co28] 27 (0, 0)) (by (with_reducible repeat (first | refine blk_drewN ?_ _ | refine blk_drew ?_ | refine blk_alloc ?_ _)); exact BK219.out) hb)
            have n7_ := Aside0.mk (blk_below (g := gb224) (o := .cells #[.slice Ao34 t220.length co34] 27 (0, 0)) (by (with_reducible repeat (first | refine blk_drewN ?_ _ | refine blk_drew ?_ | refine blk_alloc ?_ _)); exact BK224.out) hb)
            have n8_ := Aside0.mk (below_step (by repeat (first | (with_reducible first | exact HB.out | apply below_alloc | apply pw_below_drewN | apply below_drew1 | refine below_set ?_ GE206.out | refine below_set ?_ GE215.out | refine below_set ?_ GE219.out | refine below_set ?_ GE224.out) | exact HB.out)) hb)
            clear HO_216000
            clear HO_220000
            clear HO_225000
            clear BK206
            clear BK215
            clear BK219
            clear BK224
            clear HB
            have HO_216000 := n0_
            have HO_220000 := n1_
            have HO_225000 := n2_
            have HO228 := n3_
            have BK206 := n4_
            have BK215 := n5_
            have BK219 := n6_
            have BK224 := n7_
            have HB := n8_
            clear n0_ n1_ n2_ n3_ n4_ n5_ n6_ n7_ n8_
            (try clear hb)
            (try clear hb2)
            (try clear hk)
            (try clear hi)
            (try clear ho0)
            obtain ⟨Ao179, co179, eo179⟩ := Kd.R_slice HO228.out
            (first | subst eo179 | (injection eo179 with f1_ f2_ f3_; have f4_ := f1_.symm; have f5_ := f3_.symm; clear f1_ f2_ f3_; subst f4_; subst f5_))
            refine hK.out _ _ ⟨(blk_cell BK219.out 0).trans rfl, (blk_cell BK206.out 0).trans rfl⟩ (fun hHeld => ?_)
            clear hK K
            refine norm_ (a' := ?_) ?_ ?_
            rotate_left
            · show Act.put _ (some 51) _ = _
              simp only [Act.put, List.setIfInBounds_toArray, List.set_cons_zero, List.set_cons_succ, i64_w, i32_w]
              rfl
            refine one_ (i := 3) (N := some 52) #[true, true, true, true, false] rfl rfl (by kernel_rfl) (by decide) (fun K hK => ?_)
            refine goes_ Try.func19 (by kernel_rfl) rfl #[.agg #[.slice Ao28 t216.length co28], .agg #[.slice Ao179 t226.length co179]] (by rfl) rfl rfl (by (try simp only [List.map_toArray, List.map_cons, List.map_nil]); first | done | rfl | (simp only [List.length_drop, List.length_take]; rfl)) ?_
            with_reducible refine (laws_eqSums.calls kj12 _ _ t216 _ _ t226 false _ ?side1 ?side2 ?side3 ?side4 A59.out).mono ?_
            (case side1 => repeat (first | exact (Kd.R_reads' HO_220000.out).2.2 | (with_reducible refine Kd.C_alloc ?_ _) | (with_reducible refine Kd.C_drewN ?_ _) | (with_reducible refine Kd.C_drew ?_)))
            (case side2 => exact (Kd.R_reads' HO_220000.out).2.1)
            (case side3 => repeat (first | exact (Kd.R_reads' HO228.out).2.2 | (with_reducible refine Kd.C_alloc ?_ _) | (with_reducible refine Kd.C_drewN ?_ _) | (with_reducible refine Kd.C_drew ?_)))
            (case side4 => exact (Kd.R_reads' HO228.out).2.1)
            rintro e w180 ⟨rfl, hb⟩
            refine ⟨_, rfl, ?_⟩
            have n0_ := Aside0.mk (Kd.R_below (by (with_reducible repeat (first | apply Kd.R_alloc | apply Kd.R_drewN | apply Kd.R_drew)); exact HO_216000.out) hb)
            have n1_ := Aside0.mk (Kd.R_below (by (with_reducible repeat (first | apply Kd.R_alloc | apply Kd.R_drewN | apply Kd.R_drew)); exact HO_220000.out) hb)
            have n2_ := Aside0.mk (Kd.R_below (by (with_reducible repeat (first | apply Kd.R_alloc | apply Kd.R_drewN | apply Kd.R_drew)); exact HO_225000.out) hb)
            have n3_ := Aside0.mk (Kd.R_below (by (with_reducible repeat (first | apply Kd.R_alloc | apply Kd.R_drewN | apply Kd.R_drew)); exact HO228.out) hb)
            have n4_ := Aside0.mk (blk_below (g := gb206) (o := .cells #[.slice A0_0 l0_0.length c0_0] 24 (0, 0)) (by (with_reducible repeat (first | refine blk_drewN ?_ _ | refine blk_drew ?_ | refine blk_alloc ?_ _)); exact BK206.out) hb)
            have n5_ := Aside0.mk (blk_below (g := gb215) (o := .cells #[.slice Ao22 t211.length co22] 27 (0, 0)) (by (with_reducible repeat (first | refine blk_drewN ?_ _ | refine blk_drew ?_ | refine blk_alloc ?_ _)); exact BK215.out) hb)
            have n6_ := Aside0.mk (blk_below (g := gb219) (o := .cells #[.slice Ao28 t216.length co28] 27 (0, 0)) (by (with_reducible repeat (first | refine blk_drewN ?_ _ | refine blk_drew ?_ | refine blk_alloc ?_ _)); exact BK219.out) hb)
            have n7_ := Aside0.mk (blk_below (g := gb224) (o := .cells #[.slice Ao34 t220.length co34] 27 (0, 0)) (by (with_reducible repeat (first | refine blk_drewN ?_ _ | refine blk_drew ?_ | refine blk_alloc ?_ _)); exact BK224.out) hb)
            have n8_ := Aside0.mk (below_step (by repeat (first | (with_reducible first | exact HB.out | apply below_alloc | apply pw_below_drewN | apply below_drew1 | refine below_set ?_ GE206.out | refine below_set ?_ GE215.out | refine below_set ?_ GE219.out | refine below_set ?_ GE224.out) | exact HB.out)) hb)
            clear HO_216000
            clear HO_220000
            clear HO_225000
            clear HO228
            clear BK206
            clear BK215
            clear BK219
            clear BK224
            clear HB
            have HO_216000 := n0_
            have HO_220000 := n1_
            have HO_225000 := n2_
            have HO228 := n3_
            have BK206 := n4_
            have BK215 := n5_
            have BK219 := n6_
            have BK224 := n7_
            have HB := n8_
            clear n0_ n1_ n2_ n3_ n4_ n5_ n6_ n7_ n8_
            (try clear hb)
            (try clear hb2)
            (try clear hk)
            (try clear hi)
            refine hK.out _ _ ⟨(blk_cell BK219.out 0).trans rfl, (blk_cell BK206.out 0).trans rfl⟩ (fun hHeld => ?_)
            clear hK K
            refine norm_ (a' := ?_) ?_ ?_
            rotate_left
            · show Act.put _ (some 52) _ = _
              simp only [Act.put, List.setIfInBounds_toArray, List.set_cons_zero, List.set_cons_succ, i64_w, i32_w]
              rfl
            refine pure_ (i := 4) (N := some 53) (v := ?_) (a' := ?_) #[true, true, true, true, true] rfl rfl (by kernel_rfl) (fun _ _ _ h => h) (Or.inl ⟨by rfl, ?_⟩) ?_ ?_
            rotate_left
            · intro w'
              go_simp
              with_reducible rfl
            rotate_left
            · simp only [Act.put, List.setIfInBounds_toArray, List.set_cons_zero, List.set_cons_succ, i64_w, i32_w]
              rfl
            refine done_ (by kernel_rfl) ?_
            try go_wp2
            go_ret
            exact ⟨by first | rfl | (simp [errW_none, errW_some] <;> rfl) | (simp [*, errW_none, errW_some] <;> rfl), by repeat (first | (with_reducible first | exact HB.out | apply below_alloc | apply pw_below_drewN | apply below_drew1 | refine below_set ?_ GE206.out | refine below_set ?_ GE215.out | refine below_set ?_ GE219.out | refine below_set ?_ GE224.out) | exact HB.out)⟩

end Go.Proofs.Ytdjdkabblfccjaa.PFnExactAddAt
