/- What a law's argument reads as: lists, by the kinds of the printed words; for rows whose arguments hold slices of structs, of slices, or structs. No condition. -/
import Derived.Test.YtbkdgobgjebjkaaVPoolB
import Derived.Deep.Slices
import Derived.ChangeArms
import Derived.SizedLaws
import Derived.WideShapes
namespace Go.Proofs.Ytbkdgobgjebjkaa.Open
open Go.ChangeShapes Go.WideShapes Go.RowKit Go.Proofs.YtbkdgobgjebjkaaW.PrintWords
def Small {H : Type} (P : Program) (t : TypeId) (d : DataW H) : Prop := ∀ n ∈ d.weights P t, n ≤ 140737488351232
/-- Whatever reads at type t is told by kind d; wf: what is known of it besides. -/
def Opens {α : Type} (P : Program) (t : TypeId) (d : Kd α) (wf : α → Prop) : Prop :=
  P.cellsOf t = d.sz ∧ ∀ {H : Type} (enc : TypeId × Value → H) (w : World) (base : Nat) (spare : Nat → Bool) (held : Bool) (fuel : Nat) (cs : List Value) (x : DataW H × List MemPlace),
    DataW.trod enc P w base spare held fuel t cs = some x → ∃ v, d.K w v cs ∧ (Small P t x.1 → wf v)
theorem opens_int {P : Program} {t : TypeId} {k : IntKind} (ht : P.underlying t = some (.int k)) (hc : P.cellsOf t = 1) : Opens P t (Kd.int k) (fun n => (Lit.int k n).wf = true) := by
  refine ⟨hc, fun enc w base spare held fuel cs x h => ?_⟩
  obtain ⟨n, rfl, _, hw⟩ := DataW.trod_int ht h
  exact ⟨n, rfl, fun _ => hw⟩
theorem mem_all {H : Type} {P : Program} {e : TypeId} {d : DataW H} : ∀ {l : List (DataW H)}, d ∈ l → ∀ n ∈ d.weights P e, n ∈ DataW.weightsAll P e l
  | y :: l, h, n, hn => by
    simp only [DataW.weightsAll, List.mem_append]
    rcases List.mem_cons.1 h with rfl | h
    · exact .inl hn
    · exact .inr (mem_all h n hn)
  | [], h, _, _ => by cases h
theorem opens_slice {α : Type} {P : Program} {t e : TypeId} {d : Kd α} {wf : α → Prop} (ht : P.underlying t = some (.slice e)) (hc : P.cellsOf t = 1) (he : Opens P e d wf) :
    Opens P t (Kd.slice e d) (fun l => l.length * P.bytesOf e ≤ 140737488351232 ∧ ∀ v ∈ l, wf v) := by
  refine ⟨hc, fun enc w base spare held fuel cs x h => ?_⟩
  rcases Go.Deep.open_slice ht h with ⟨rfl, rfl⟩ | ⟨a, len, cap, m, n, D, Pl, rfl, _, hl, hm, hmm, hx, hi⟩
  · exact ⟨[], ⟨none, 0, rfl, Nat.le_refl _, rfl, by simp, fun h => absurd h (Nat.lt_irrefl 0)⟩, fun _ => ⟨by simp, by simp⟩⟩
  · have hlm : len ≤ m := by rw [hmm]; split <;> omega
    have hall : ∀ i : Nat, ∃ v : Option α, i < len → ∃ u, v = some u ∧ (∃ c, c.length = d.sz ∧ d.K w u c ∧ ∀ j y, c[j]? = some y → w.cell? (a.add (i * d.sz + j)) = some y) ∧ (Small P e (D i) → wf u) := by
      intro i
      by_cases hlt : i < len
      · obtain ⟨cs', hcs, htr⟩ := hi i (by omega)
        obtain ⟨u, hK, hwf⟩ := he.2 enc w base spare held n cs' _ htr
        refine ⟨some u, fun _ => ⟨u, rfl, ⟨cs', d.K_len hK, hK, fun j y hj => ?_⟩, hwf⟩⟩
        obtain ⟨_, hcl, hat⟩ := World.cells?_some hcs
        have hj' : j < P.cellsOf e := by
          have := (List.getElem?_eq_some_iff.1 hj).1
          rw [d.K_len hK] at this
          rw [he.1]; exact this
        have h1 := hat j hj'
        rw [hj, he.1] at h1
        rw [← h1, Go.Deep.add_add]
      · exact ⟨none, fun h => absurd h hlt⟩
    obtain ⟨f, hf⟩ := Classical.axiomOfChoice hall
    have hlen : ((List.range len).filterMap f).length = len := by
      rw [List.length_filterMap_eq_countP, List.countP_eq_length.2 (fun i hi => by
        obtain ⟨u, hu, _⟩ := hf i (List.mem_range.1 hi); simp [hu]), List.length_range]
    have hget : ∀ (i : Nat) (hi : i < len), ∃ u, f i = some u ∧ ((List.range len).filterMap f)[i]? = some u := by
      intro i hi
      obtain ⟨u, hu, _⟩ := hf i hi
      refine ⟨u, hu, ?_⟩
      have key : ∀ k, k ≤ len → ((List.range k).filterMap f).length = k := by
        intro k hk
        rw [List.length_filterMap_eq_countP, List.countP_eq_length.2 (fun i hi => by
          obtain ⟨u, hu, _⟩ := hf i (by have := List.mem_range.1 hi; omega); simp [hu]), List.length_range]
      have e1 : List.range len = List.range i ++ (i :: (List.range' (i + 1) (len - (i + 1)))) := by
        rw [List.range_eq_range', List.range_eq_range', show len = i + (len - i) by omega, ← List.range'_append_1, Nat.zero_add, show i + (len - i) - (i + 1) = len - i - 1 by omega]
        congr 1
        rw [show len - i = (len - i - 1) + 1 by omega, List.range'_succ, Nat.add_sub_cancel]
      rw [e1, List.filterMap_append, List.getElem?_append_right (by rw [key i (by omega)]; exact Nat.le_refl _), key i (by omega), Nat.sub_self, List.filterMap_cons]
      simp [hu]
    refine ⟨(List.range len).filterMap f, ⟨some a, cap, by rw [hlen], by rw [hlen]; exact hl, ?_⟩, fun hsm => ?_⟩
    · refine ⟨rfl, by rw [hlen]; unfold maxLen at hm; omega, fun _ => ⟨a, rfl, fun j u hj => ?_⟩⟩
      have hjl : j < len := by have := (List.getElem?_eq_some_iff.1 hj).1; rwa [hlen] at this
      obtain ⟨u', hu', hg⟩ := hget j hjl
      obtain ⟨u2, hu2, ⟨c, hcl, hK, hat⟩, _⟩ := hf j hjl
      rw [hg] at hj
      obtain rfl : u' = u := Option.some.inj hj
      obtain rfl : u' = u2 := Option.some.inj (hu'.symm.trans hu2)
      exact ⟨c, hcl, hK, hat⟩
    · have hx1 : x.1 = .slice ((List.range len).map D) ((List.range (m - len)).map fun j => D (len + j)) := by rw [hx]
      rw [hx1] at hsm
      unfold Small at hsm
      simp only [DataW.weights, ht] at hsm
      refine ⟨?_, fun v hv => ?_⟩
      · rw [hlen]
        have := hsm _ (List.mem_cons_self ..)
        simp only [List.length_map, List.length_range] at this
        exact Nat.le_trans (Nat.mul_le_mul_right _ (by omega)) this
      · obtain ⟨i, hi, hfi⟩ := List.mem_filterMap.1 hv
        have hil := List.mem_range.1 hi
        obtain ⟨u2, hu2, _, hwf⟩ := hf i hil
        obtain rfl : v = u2 := Option.some.inj (hfi.symm.trans hu2)
        refine hwf fun q hq => hsm q (List.mem_cons_of_mem _ (List.mem_append_left _ (mem_all (List.mem_map.2 ⟨i, hi, rfl⟩) q hq)))
theorem small_part {H : Type} {P : Program} {t : TypeId} {fs : Array Field} {xs : List (DataW H)} (ht : P.underlying t = some (.struct fs)) (h : Small P t (.agg xs)) {i : Nat} {f : Field} {y : DataW H} (hf : fs[i]? = some f) (hy : xs[i]? = some y) : Small P f.type y := by
  intro n hn
  refine h n ?_
  simp only [DataW.weights, ht]
  refine DataW.weights_mem_each (j := i) ?_ hy n hn
  simp [hf]
theorem opens_one {α β : Type} {P : Program} {t : TypeId} {f0 : Field} {d0 : Kd α} {wf0 : α → Prop} {g : β → α} (mk : α → β) (hmk : ∀ a, g (mk a) = a)
    (ht : P.underlying t = some (.struct #[f0])) (h0 : f0.offset = 0) (hc : P.cellsOf t = d0.sz) (o0 : Opens P f0.type d0 wf0) : Opens P t (Kd.iso d0 g) (fun v => wf0 (g v)) := by
  refine ⟨hc, fun enc w base spare held fuel cs x h => ?_⟩
  obtain ⟨xs, n, _, rfl, hcl, hxl, hf⟩ := DataW.trod_struct ht h
  have e0 := hf 0 f0 rfl
  rw [h0, List.drop_zero, o0.1, List.take_of_length_le (by omega)] at e0
  obtain ⟨y, hy⟩ : ∃ y, xs[0]? = some y := ⟨_, List.getElem?_eq_getElem (by rw [hxl]; simp)⟩
  rw [hy] at e0
  obtain ⟨v, hK, hw⟩ := o0.2 enc w base spare held n _ _ e0
  refine ⟨mk v, show d0.K w (g (mk v)) cs by rw [hmk]; exact hK, fun hs => ?_⟩
  show wf0 (g (mk v))
  rw [hmk]
  exact hw (small_part (i := 0) (f := f0) ht hs rfl (by rw [List.getElem?_map, hy]; rfl))
theorem opens_two {α γ β : Type} {P : Program} {t : TypeId} {f0 f1 : Field} {d0 : Kd α} {d1 : Kd γ} {wf0 : α → Prop} {wf1 : γ → Prop} {g : β → α × γ} (mk : α → γ → β) (hmk : ∀ a b, g (mk a b) = (a, b))
    (ht : P.underlying t = some (.struct #[f0, f1])) (h0 : f0.offset = 0) (h1 : f1.offset = d0.sz) (hc : P.cellsOf t = d0.sz + d1.sz) (o0 : Opens P f0.type d0 wf0) (o1 : Opens P f1.type d1 wf1) :
    Opens P t (Kd.iso (Kd.pair d0 d1) g) (fun v => wf0 (g v).1 ∧ wf1 (g v).2) := by
  refine ⟨hc, fun enc w base spare held fuel cs x h => ?_⟩
  obtain ⟨xs, n, _, rfl, hcl, hxl, hf⟩ := DataW.trod_struct ht h
  have e0 := hf 0 f0 rfl
  have e1 := hf 1 f1 rfl
  rw [h0, List.drop_zero, o0.1] at e0
  rw [h1, o1.1, List.take_of_length_le (by rw [List.length_drop]; omega)] at e1
  obtain ⟨y, hy⟩ : ∃ y, xs[0]? = some y := ⟨_, List.getElem?_eq_getElem (by rw [hxl]; simp)⟩
  obtain ⟨z, hz⟩ : ∃ y, xs[1]? = some y := ⟨_, List.getElem?_eq_getElem (by rw [hxl]; simp)⟩
  rw [hy] at e0
  rw [hz] at e1
  obtain ⟨v, hK, hw⟩ := o0.2 enc w base spare held n _ _ e0
  obtain ⟨u, hK1, hw1⟩ := o1.2 enc w base spare held n _ _ e1
  refine ⟨mk v u, show (Kd.pair d0 d1).K w (g (mk v u)) cs by rw [hmk]; exact ⟨_, _, (List.take_append_drop d0.sz cs).symm, hK, hK1⟩, fun hs => ?_⟩
  show wf0 (g (mk v u)).1 ∧ wf1 (g (mk v u)).2
  rw [hmk]
  exact ⟨hw (small_part (i := 0) (f := f0) ht hs rfl (by rw [List.getElem?_map, hy]; rfl)), hw1 (small_part (i := 1) (f := f1) ht hs rfl (by rw [List.getElem?_map, hz]; rfl))⟩
theorem opens_three {α γ δ β : Type} {P : Program} {t : TypeId} {f0 f1 f2 : Field} {d0 : Kd α} {d1 : Kd γ} {d2 : Kd δ} {wf0 : α → Prop} {wf1 : γ → Prop} {wf2 : δ → Prop} {g : β → α × γ × δ} (mk : α → γ → δ → β) (hmk : ∀ a b c, g (mk a b c) = (a, b, c))
    (ht : P.underlying t = some (.struct #[f0, f1, f2])) (h0 : f0.offset = 0) (h1 : f1.offset = d0.sz) (h2 : f2.offset = d0.sz + d1.sz) (hc : P.cellsOf t = d0.sz + (d1.sz + d2.sz)) (o0 : Opens P f0.type d0 wf0) (o1 : Opens P f1.type d1 wf1) (o2 : Opens P f2.type d2 wf2) :
    Opens P t (Kd.iso (Kd.pair d0 (Kd.pair d1 d2)) g) (fun v => wf0 (g v).1 ∧ wf1 (g v).2.1 ∧ wf2 (g v).2.2) := by
  refine ⟨hc, fun enc w base spare held fuel cs x h => ?_⟩
  obtain ⟨xs, n, _, rfl, hcl, hxl, hf⟩ := DataW.trod_struct ht h
  have e0 := hf 0 f0 rfl
  have e1 := hf 1 f1 rfl
  have e2 := hf 2 f2 rfl
  rw [h0, List.drop_zero, o0.1] at e0
  rw [h1, o1.1] at e1
  rw [h2, o2.1, List.take_of_length_le (by rw [List.length_drop]; omega)] at e2
  obtain ⟨y, hy⟩ : ∃ y, xs[0]? = some y := ⟨_, List.getElem?_eq_getElem (by rw [hxl]; simp)⟩
  obtain ⟨z, hz⟩ : ∃ y, xs[1]? = some y := ⟨_, List.getElem?_eq_getElem (by rw [hxl]; simp)⟩
  obtain ⟨q, hq⟩ : ∃ y, xs[2]? = some y := ⟨_, List.getElem?_eq_getElem (by rw [hxl]; simp)⟩
  rw [hy] at e0
  rw [hz] at e1
  rw [hq] at e2
  obtain ⟨v, hK, hw⟩ := o0.2 enc w base spare held n _ _ e0
  obtain ⟨u, hK1, hw1⟩ := o1.2 enc w base spare held n _ _ e1
  obtain ⟨r, hK2, hw2⟩ := o2.2 enc w base spare held n _ _ e2
  refine ⟨mk v u r, show (Kd.pair d0 (Kd.pair d1 d2)).K w (g (mk v u r)) cs by
    rw [hmk]
    refine ⟨_, _, (List.take_append_drop d0.sz cs).symm, hK, _, _, (List.take_append_drop d1.sz (cs.drop d0.sz)).symm, hK1, ?_⟩
    rw [List.drop_drop]; exact hK2, fun hs => ?_⟩
  show wf0 (g (mk v u r)).1 ∧ wf1 (g (mk v u r)).2.1 ∧ wf2 (g (mk v u r)).2.2
  rw [hmk]
  exact ⟨hw (small_part (i := 0) (f := f0) ht hs rfl (by rw [List.getElem?_map, hy]; rfl)), hw1 (small_part (i := 1) (f := f1) ht hs rfl (by rw [List.getElem?_map, hz]; rfl)), hw2 (small_part (i := 2) (f := f2) ht hs rfl (by rw [List.getElem?_map, hq]; rfl))⟩
theorem small_arg {H : Type} {P : Program} {ts : List TypeId} {ds : List (DataW H)} (hsz : (DataW.weightsEach P ts ds).all (· ≤ reachBytes) = true) {j : Nat} {t : TypeId} {d : DataW H} (ht : ts[j]? = some t) (hd : ds[j]? = some d) : Small P t d := by
  intro n hn
  have := List.all_eq_true.1 hsz _ (DataW.weights_mem_each ht hd n hn)
  have hb : reachBytes = 140737488351232 - 0 := by decide
  simpa [hb] using this
/-- An argument that is a slice. -/
theorem arg_slice {α H : Type} {enc : TypeId × Value → H} {P : Program} {W : World} {base : Nat} {spare : Nat → Bool} {held : Bool} {t e : TypeId} {d : Kd α} {wf : α → Prop} {a : Option Addr} {len cap : Nat} {dt : DataW H} {ps : List MemPlace} {ts : List TypeId} {ds : List (DataW H)} {j : Nat}
    (o : Opens P t (Kd.slice e d) (fun l => l.length * P.bytesOf e ≤ 140737488351232 ∧ ∀ v ∈ l, wf v)) (hsz : (DataW.weightsEach P ts ds).all (· ≤ reachBytes) = true) (ht : ts[j]? = some t) (hd : ds[j]? = some dt)
    (h : DataW.Trod enc P W base spare held t (.slice a len cap) dt ps) : ∃ l : List α, len = l.length ∧ d.C W a l.length l ∧ l.length ≤ cap ∧ l.length * P.bytesOf e ≤ 140737488351232 ∧ ∀ v ∈ l, wf v := by
  obtain ⟨fuel, hf⟩ := h
  obtain ⟨l, ⟨A, c, hcs, hlc, hC⟩, hw⟩ := o.2 enc W base spare held fuel _ _ hf
  simp only [Value.cells, List.cons.injEq, Value.slice.injEq, and_true] at hcs
  obtain ⟨rfl, rfl, rfl⟩ := hcs
  have := hw (small_arg hsz ht hd)
  exact ⟨l, rfl, hC, hlc, this.1, this.2⟩
/-- An argument that is a struct of one slice. -/
theorem arg_one {α β H : Type} {enc : TypeId × Value → H} {P : Program} {W : World} {base : Nat} {spare : Nat → Bool} {held : Bool} {t e : TypeId} {d : Kd α} {wf : α → Prop} {g : β → List α} {cells : Array Value} {dt : DataW H} {ps : List MemPlace} {ts : List TypeId} {ds : List (DataW H)} {j : Nat}
    (o : Opens P t (Kd.iso (Kd.slice e d) g) (fun v => (g v).length * P.bytesOf e ≤ 140737488351232 ∧ ∀ x ∈ g v, wf x)) (hsz : (DataW.weightsEach P ts ds).all (· ≤ reachBytes) = true) (ht : ts[j]? = some t) (hd : ds[j]? = some dt)
    (h : DataW.Trod enc P W base spare held t (.agg cells) dt ps) : ∃ (l : List α) (a : Option Addr) (cap : Nat), cells = #[.slice a l.length cap] ∧ d.C W a l.length l ∧ l.length ≤ cap ∧ l.length * P.bytesOf e ≤ 140737488351232 ∧ ∀ v ∈ l, wf v := by
  obtain ⟨fuel, hf⟩ := h
  obtain ⟨v, ⟨A, c, hcs, hlc, hC⟩, hw⟩ := o.2 enc W base spare held fuel _ _ hf
  have := hw (small_arg hsz ht hd)
  refine ⟨g v, A, c, ?_, hC, hlc, this.1, this.2⟩
  simp only [Value.cells] at hcs
  obtain ⟨l⟩ := cells
  simpa using hcs
end Go.Proofs.Ytbkdgobgjebjkaa.Open
