/- The clock's law holds at every two slices of bytes: each drawn tick lies in the slot and phase that are told, and they begin where they are told to. No condition. -/
import Derived.Test.YtcmjadnegoelhaaPFnClockx0
import Derived.Test.YtcmjadnegoelhaaPFnClockx1
import Derived.Test.YtcmjadnegoelhaaPFnClockx2
namespace Go.Proofs.Ytcmjadnegoelhaa.Pure
open Go.RowKit Go.Proofs.Ytcmjadnegoelhaa.PFnClock Go.Proofs.YtcmjadnegoelhaaW.PrintWords Go.Proofs.YtcmjadnegoelhaaW.PrintLast Go.Proofs.YtcmjadnegoelhaaW.PrintMore
set_option linter.unusedVariables false
set_option linter.unusedSimpArgs false
theorem w64 {n : Int} (h0 : -9223372036854775808 ≤ n) (h1 : n ≤ 9223372036854775807) : wrap64 n = n := by unfold wrap64; omega
theorem w64s {i : Nat} (h1 : i ≤ 1000000000000000) : wrap64 ((i : Int) + 1) = ((i + 1 : Nat) : Int) := by rw [w64 (by omega) (by omega)]; omega
theorem rd_eq (l : List Int) (i : Nat) : rd l (i : Int) = l.getD i 0 := by simp [rd]
theorem rd_get (l : List Int) (i : Nat) (h : i < l.length) : l[i]? = some (rd l (i : Int)) := by
  simp [rd, List.getD_eq_getElem?_getD, List.getElem?_eq_getElem h]
theorem rd_mem (l : List Int) (i : Nat) (h : i < l.length) : rd l (i : Int) ∈ l := List.mem_of_getElem? (rd_get l i h)
theorem step_k {k d : Nat} (h : d < k) : ∃ m, k = m + 1 := ⟨k - 1, by omega⟩

def inn (a b c : Int) : Bool := decide (b ≤ a ∧ a ≤ c)
theorem inn_t {a b c : Int} : inn a b c = true ↔ b ≤ a ∧ a ≤ c := by simp [inn]
theorem inn_f {a b c : Int} : inn a b c = false ↔ a < b ∨ c < a := by simp [inn]; omega
theorem l1In_f (a b c : Int) : spec_l1In.f a b c = some (inn a b c) := by
  unfold spec_l1In.f inn
  by_cases h : a ≥ b
  · rw [if_pos h]; simp [show b ≤ a from h]
  · rw [if_neg h]; simp [show ¬ b ≤ a from h]
theorem within_f (a b c : Int) : impl_within.f a b c = some (inn a b c) := by
  unfold impl_within.f inn
  by_cases h : a ≥ b
  · rw [if_pos h]; simp [show b ≤ a from h]
  · rw [if_neg h]; simp [show ¬ b ≤ a from h]

theorem u8_bd {l : List Int} (h : ∀ v ∈ l, (Lit.int .u8 v).wf = true) : ∀ v ∈ l, 0 ≤ v ∧ v ≤ 255 := by
  intro v hv
  have := h v hv
  simp [Lit.wf, IntKind.min, IntKind.max, IntKind.signed, IntKind.bits] at this
  omega
theorem wraps_u64 (n : Int) (h₀ : 0 ≤ n) (h₁ : n < 2 ^ 63) : IntKind.u64.wrap n = n := by
  simp [IntKind.wrap, IntKind.bits, IntKind.signed]; omega
theorem wrapu_nn (n : Int) : 0 ≤ IntKind.u64.wrap n ∧ IntKind.u64.wrap n < 2 ^ 64 := by
  simp [IntKind.wrap, IntKind.bits, IntKind.signed]; omega
theorem and255 {x : Int} (h0 : 0 ≤ x) (h1 : x < 2 ^ 63) : 0 ≤ Go.bits .and .u64 x 255 ∧ Go.bits .and .u64 x 255 ≤ 255 := by
  obtain ⟨a, rfl⟩ := Int.eq_ofNat_of_zero_le h0
  have ha : a < 2 ^ 63 := by exact_mod_cast h1
  have e := (bits_nat .u64 63 (by decide) wraps_u64 a 255 ha (by decide)).1
  rw [show ((255 : Nat) : Int) = 255 from rfl] at e
  rw [e]
  have : a &&& 255 ≤ 255 := Nat.and_le_right
  omega
theorem next_ex {l : List Int} (hl : ∀ v ∈ l, 0 ≤ v ∧ v ≤ 255) (hn : l.length ≤ 1000000000000000) (n s : Int) (h0 : 0 ≤ n) (h1 : n ≤ 1000000000000000) :
    ∃ b s', spec_l1Cur_next.f l n s = some (b, n + 1, s') ∧ 0 ≤ b ∧ b ≤ 255 := by
  have e : wrap64 (n + 1) = n + 1 := w64 (by omega) (by omega)
  have sm : ∀ q : Int, 0 ≤ wrap64 (Go.bits .and .u64 (IntKind.u64.wrap q / 1099511627776) 255) ∧ wrap64 (Go.bits .and .u64 (IntKind.u64.wrap q / 1099511627776) 255) ≤ 255 := by
    intro q
    have h2 := wrapu_nn q
    have h3 := and255 (x := IntKind.u64.wrap q / 1099511627776) (by omega) (by omega)
    rw [w64 (by omega) (by omega)]; exact h3
  unfold spec_l1Cur_next.f
  rw [e]
  by_cases h : n < (l.length : Int)
  · have hm := hl _ (rd_mem l n.toNat (by omega))
    rw [show ((n.toNat : Nat) : Int) = n by omega] at hm
    rw [if_pos h, if_pos h0, if_pos (by omega), w64 (n := rd l n) (by omega) (by omega)]
    exact ⟨_, _, rfl, hm.1, hm.2⟩
  · rw [if_neg h, if_neg (by omega)]
    exact ⟨_, _, rfl, (sm _).1, (sm _).2⟩
theorem pick_ex {l : List Int} (hl : ∀ v ∈ l, 0 ≤ v ∧ v ≤ 255) (hn : l.length ≤ 1000000000000000) (n s q : Int) (h0 : 0 ≤ n) (h1 : n ≤ 999999999999999) :
    ∃ b n' s', spec_l1Cur_pick.f l n s q = some (b, n', s') ∧ n ≤ n' ∧ n' ≤ n + 2 ∧ 0 ≤ b ∧ (b < q ∨ b = 0) := by
  unfold spec_l1Cur_pick.f
  by_cases h : q ≤ 1
  · rw [if_pos h]; exact ⟨_, _, _, rfl, by omega, by omega, by omega, .inr rfl⟩
  · obtain ⟨b, s1, e1, hb0, hb1⟩ := next_ex hl hn n s h0 (by omega)
    rw [if_neg h, e1]
    simp only [Option.bind_some]
    by_cases h2 : q > 200
    · obtain ⟨b2, s2, e2, hc0, hc1⟩ := next_ex hl hn (n + 1) s1 (by omega) (by omega)
      rw [if_pos h2, e2]
      simp only [Option.bind_some]
      rw [if_neg (by omega), w64 (n := b * 256) (by omega) (by omega), w64 (n := b * 256 + b2) (by omega) (by omega)]
      refine ⟨_, _, _, rfl, by omega, by omega, Int.tmod_nonneg _ (by omega), .inl (Int.tmod_lt_of_pos _ (by omega))⟩
    · rw [if_neg h2, if_neg (by omega)]
      exact ⟨_, _, _, rfl, by omega, by omega, Int.tmod_nonneg _ (by omega), .inl (Int.tmod_lt_of_pos _ (by omega))⟩

theorem among_ex {l : List Int} (hl : ∀ v ∈ l, 0 ≤ v ∧ v ≤ 255) (hn : l.length ≤ 1000000000000000) (n s : Int) (xs : List Int) (hx : 0 < xs.length) (h0 : 0 ≤ n) (h1 : n ≤ 999999999999999) :
    ∃ b n' s', spec_l1Cur_among.f l n s xs = some (b, n', s') ∧ n ≤ n' ∧ n' ≤ n + 2 ∧ b ∈ xs := by
  unfold spec_l1Cur_among.f
  obtain ⟨b, n1, s1, e1, h2, h3, h4, h5⟩ := pick_ex hl hn n s (xs.length : Int) h0 h1
  rw [e1]
  simp only [Option.bind_some]
  rw [if_pos h4, if_pos (by omega)]
  refine ⟨_, _, _, rfl, h2, h3, ?_⟩
  have := rd_mem xs b.toNat (by omega)
  rwa [show ((b.toNat : Nat) : Int) = b by omega] at this

def slotOf (t d : Int) : Int × Int × Bool := if inn t 0 100000 && inn d 1 10 then (t / d / 4, t / d % 4, true) else (0, 0, false)
theorem slot_bd {t d : Int} (h1 : 0 ≤ t ∧ t ≤ 100000) (h2 : 1 ≤ d ∧ d ≤ 10) : 0 ≤ t / d ∧ t / d ≤ 100000 :=
  ⟨Int.ediv_nonneg h1.1 (by omega), Int.le_trans (Int.ediv_le_self d h1.1) h1.2⟩
theorem spec_SlotOf_f (t d : Int) : spec_SlotOf.f t d = some (slotOf t d) := by
  unfold spec_SlotOf.f slotOf spec_l2Delta.f
  simp only [l1In_f, Option.bind_some]
  by_cases h : inn t 0 100000 = true
  · by_cases h2 : inn d 1 10 = true
    · have h3 := inn_t.1 h
      have h4 := inn_t.1 h2
      have hb := slot_bd h3 h4
      rw [if_pos h, if_pos h2, w64 (n := 4 * d) (by omega) (by omega), if_neg (by omega), if_neg (by omega), Int.tdiv_eq_ediv_of_nonneg h3.1, Int.tdiv_eq_ediv_of_nonneg h3.1, w64 (n := t / d) (by omega) (by omega), Int.tmod_eq_emod_of_nonneg hb.1, Int.mul_comm 4 d, ← Int.ediv_ediv_of_nonneg (by omega), w64 (n := t / d / 4) (by omega) (by omega)]
      simp [h, h2]
    · rw [if_pos h, if_neg h2]; simp [h2]
  · rw [if_neg h]; simp [h]
theorem impl_SlotOf_f (t d : Int) : impl_SlotOf.f t d = some (slotOf t d) := by
  unfold impl_SlotOf.f slotOf impl_isDelta.f
  simp only [within_f, Option.bind_some]
  by_cases h : inn t 0 100000 = true
  · by_cases h2 : inn d 1 10 = true
    · have h3 := inn_t.1 h
      have h4 := inn_t.1 h2
      have hb := slot_bd h3 h4
      rw [if_pos h, if_pos h2, if_neg (by omega), Int.tdiv_eq_ediv_of_nonneg h3.1, w64 (n := t / d) (by omega) (by omega), Int.tmod_eq_emod_of_nonneg hb.1, Int.tdiv_eq_ediv_of_nonneg hb.1, w64 (n := t / d / 4) (by omega) (by omega)]
      simp [h, h2]
    · rw [if_pos h, if_neg h2]; simp [h2]
  · rw [if_neg h]; simp [h]
def startOf (s p d : Int) : Int × Bool := if inn s 0 4000 && inn p 0 3 && inn d 1 10 && decide ((4 * s + p) * d ≤ 100000) then ((4 * s + p) * d, true) else (0, false)
theorem start_bd {s p d : Int} (h : 0 ≤ s ∧ s ≤ 4000) (h1 : 0 ≤ p ∧ p ≤ 3) (h2 : 1 ≤ d ∧ d ≤ 10) : 0 ≤ (4 * s + p) * d ∧ (4 * s + p) * d ≤ 1000000 := by
  have h3 : (4 * s + p) * d ≤ (4 * s + p) * 10 := Int.mul_le_mul_of_nonneg_left h2.2 (by omega)
  exact ⟨Int.mul_nonneg (by omega) (by omega), by omega⟩
theorem spec_StartOf_f {k : Nat} (s p d : Int) (hk : 0 < k) : spec_StartOf.f k s p d = some (startOf s p d) := by
  obtain ⟨k, rfl⟩ := step_k hk
  unfold spec_StartOf.f startOf spec_l2Delta.f
  simp only [l1In_f, Option.bind_some, spec_StartOf.j0]
  by_cases h : inn s 0 4000 = true
  · by_cases h1 : inn p 0 3 = true
    · by_cases h2 : inn d 1 10 = true
      · have b := start_bd (inn_t.1 h) (inn_t.1 h1) (inn_t.1 h2)
        have b0 := inn_t.1 h
        have b1 := inn_t.1 h1
        simp only [h, h1, h2, if_true, Bool.not_true, Bool.false_eq_true, if_false, Bool.true_and]
        rw [w64 (n := 4 * s) (by omega) (by omega), w64 (n := 4 * s + p) (by omega) (by omega), w64 (n := (4 * s + p) * d) (by omega) (by omega)]
        by_cases h3 : (4 * s + p) * d > 100000
        · rw [if_pos h3, if_neg (by simp; omega)]
        · rw [if_neg h3, if_pos (by simp; omega)]
      · simp [h, h1, h2]
    · simp [h, h1]
  · simp [h]
theorem impl_StartOf_f {k : Nat} (s p d : Int) (hk : 0 < k) : impl_StartOf.f k s p d = some (startOf s p d) := by
  obtain ⟨k, rfl⟩ := step_k hk
  unfold impl_StartOf.f startOf impl_isDelta.f impl_isSlot.f
  simp only [within_f, Option.bind_some, impl_StartOf.j0, Int.mul_comm s 4]
  by_cases h : inn s 0 4000 = true
  · by_cases h1 : inn p 0 3 = true
    · by_cases h2 : inn d 1 10 = true
      · have b := start_bd (inn_t.1 h) (inn_t.1 h1) (inn_t.1 h2)
        have b0 := inn_t.1 h
        have b1 := inn_t.1 h1
        simp only [h, h1, h2, if_true, Bool.not_true, Bool.false_eq_true, if_false, Bool.true_and]
        rw [w64 (n := 4 * s) (by omega) (by omega), w64 (n := 4 * s + p) (by omega) (by omega), w64 (n := (4 * s + p) * d) (by omega) (by omega)]
        by_cases h3 : (4 * s + p) * d > 100000
        · rw [if_pos h3, if_neg (by simp; omega)]
        · rw [if_neg h3, if_pos (by simp; omega)]
      · simp [h, h1, h2]
    · simp [h, h1]
  · simp [h]
theorem draw_slot {l : List Int} (hl : ∀ v ∈ l, 0 ≤ v ∧ v ≤ 255) (hn : l.length ≤ 1000000000000000) : ∃ t d, spec_DrawSlotOf.f l = some (t, d) := by
  unfold spec_DrawSlotOf.f
  obtain ⟨b1, n1, s1, e1, _, _, _, _⟩ := pick_ex hl hn 0 0 250 (by omega) (by omega)
  rw [e1]; simp only [Option.bind_some]
  obtain ⟨b2, n2, s2, e2, _, _, _, _⟩ := pick_ex hl hn n1 s1 250 (by omega) (by omega)
  rw [e2]; simp only [Option.bind_some]
  obtain ⟨b3, n3, s3, e3, _, _, _⟩ := among_ex hl hn n2 s2 [(-1), 0, 1, 37, 100000, 100001, wrap64 (b1 * b2)] (by simp) (by omega) (by omega)
  rw [e3]; simp only [Option.bind_some]
  obtain ⟨b4, n4, s4, e4, _, _, _, _⟩ := pick_ex hl hn n3 s3 13 (by omega) (by omega)
  rw [e4]; exact ⟨_, _, rfl⟩
theorem draw_start {l : List Int} (hl : ∀ v ∈ l, 0 ≤ v ∧ v ≤ 255) (hn : l.length ≤ 1000000000000000) : ∃ a b c, spec_DrawStartOf.f l = some (a, b, c) := by
  unfold spec_DrawStartOf.f
  obtain ⟨b3, n3, s3, e3, _, _, _⟩ := among_ex hl hn 0 0 [(-1), 0, 1, 37, 2500, 4000, 4001] (by simp) (by omega) (by omega)
  rw [e3]; simp only [Option.bind_some]
  obtain ⟨b1, n1, s1, e1, _, _, _, _⟩ := pick_ex hl hn n3 s3 6 (by omega) (by omega)
  rw [e1]; simp only [Option.bind_some]
  obtain ⟨b4, n4, s4, e4, _, _, _, _⟩ := pick_ex hl hn n1 s1 13 (by omega) (by omega)
  rw [e4]; exact ⟨_, _, _, rfl⟩
theorem back_slot {a b c : Int} (h : 0 ≤ a ∧ a ≤ 4000) (h1 : 0 ≤ b ∧ b ≤ 3) (h2 : 1 ≤ c ∧ c ≤ 10) (h3 : (4 * a + b) * c ≤ 100000) : slotOf ((4 * a + b) * c) c = (a, b, true) := by
  have hb := start_bd h h1 h2
  unfold slotOf
  rw [inn_t.2 ⟨hb.1, h3⟩, inn_t.2 h2]
  simp only [Bool.and_self, if_true]
  rw [Int.mul_ediv_cancel _ (by omega)]
  rw [show (4 * a + b) / 4 = a by omega, show (4 * a + b) % 4 = b by omega]
theorem j2_true {k : Nat} (a b c : Int) : laws_FnClock.j2 (k + 1) a b c (startOf a b c).1 (startOf a b c).2 false = some true := by
  simp only [laws_FnClock.j2, Bool.false_eq_true, if_false, impl_SlotOf_f, Option.bind_some]
  by_cases h : (startOf a b c).2 = true
  · rw [if_pos h]
    have hc : (inn a 0 4000 && inn b 0 3 && inn c 1 10 && decide ((4 * a + b) * c ≤ 100000)) = true := by
      unfold startOf at h
      split at h
      · assumption
      · cases h
    have e : (startOf a b c).1 = (4 * a + b) * c := by unfold startOf; rw [if_pos hc]
    simp only [Bool.and_eq_true, decide_eq_true_eq] at hc
    obtain ⟨⟨⟨h1, h2⟩, h3⟩, h4⟩ := hc
    rw [e, back_slot (inn_t.1 h1) (inn_t.1 h2) (inn_t.1 h3) h4]
    simp
  · rw [if_neg h]
theorem j1_true {k : Nat} {l : List Int} (hl : ∀ v ∈ l, 0 ≤ v ∧ v ≤ 255) (hn : l.length ≤ 1000000000000000) : laws_FnClock.j1 (k + 2) l = some true := by
  obtain ⟨a, b, c, e⟩ := draw_start hl hn
  simp only [laws_FnClock.j1]
  rw [e]
  simp only [Option.bind_some]
  rw [impl_StartOf_f _ _ _ (by omega), spec_StartOf_f _ _ _ (by omega)]
  simp only [Option.bind_some, bne_self_eq_false, Bool.false_eq_true, if_false]
  exact j2_true a b c
theorem FnClock : ∀ (l0 : List (Int)) (l1 : List (Int)), l0.length * 1 ≤ 140737488351232 → (∀ v ∈ l0, (Lit.int .u8 v).wf = true) → l1.length * 1 ≤ 140737488351232 → (∀ v ∈ l1, (Lit.int .u8 v).wf = true) → ∃ k, laws_FnClock.f k l0 l1 = some true := by
  intro l m hl hw hm hw'
  refine ⟨4, ?_⟩
  obtain ⟨t, d, e⟩ := draw_slot (u8_bd hw) (by omega)
  unfold laws_FnClock.f
  by_cases h : wrap64 ((l.length : Int) + (m.length : Int)) > 1048576
  · rw [if_pos h]
  · rw [if_neg h, e]
    simp only [Option.bind_some, impl_SlotOf_f, spec_SlotOf_f, bne_self_eq_false, Bool.false_eq_true, if_false, if_true, laws_FnClock.j0]
    have hj := j1_true (k := 1) (u8_bd hw') (by omega)
    by_cases h1 : (slotOf t d).2.2 = true
    · rw [if_pos h1]
      have hc : (inn t 0 100000 && inn d 1 10) = true := by
        unfold slotOf at h1
        split at h1
        · assumption
        · cases h1
      have es : slotOf t d = (t / d / 4, t / d % 4, true) := by unfold slotOf; rw [if_pos hc]
      rw [Bool.and_eq_true] at hc
      have h3 := inn_t.1 hc.1
      have h4 := inn_t.1 hc.2
      have hb := slot_bd h3 h4
      rw [impl_StartOf_f _ _ _ (by omega), es]
      simp only [Option.bind_some]
      have e4 : 4 * (t / d / 4) + t / d % 4 = t / d := by omega
      have e5 : t / d * d ≤ t := by
        have := Int.ediv_mul_le t (b := d) (by omega); exact this
      have e6 : t < t / d * d + d := by
        have := Int.lt_ediv_add_one_mul_self t (b := d) (by omega)
        rw [Int.add_mul, Int.one_mul] at this; exact this
      by_cases h5 : t / d / 4 ≤ 4000
      · have e7 : startOf (t / d / 4) (t / d % 4) d = (t / d * d, true) := by
          unfold startOf
          rw [inn_t.2 ⟨by omega, h5⟩, inn_t.2 ⟨by omega, by omega⟩, hc.2, e4, decide_eq_true (by omega)]
          simp
        have e8 : 0 ≤ t / d * d := Int.mul_nonneg hb.1 (by omega)
        rw [e7]
        simp only [if_true]
        rw [if_neg (by omega), w64 (by omega) (by omega), if_neg (by omega)]
        exact hj
      · have e7 : startOf (t / d / 4) (t / d % 4) d = (0, false) := by
          unfold startOf
          rw [inn_f.2 (.inr (by omega))]
          simp
        rw [e7]
        simp only [Bool.false_eq_true, if_false]
        rw [if_neg h5]
        exact hj
    · rw [if_neg h1]
      exact hj

end Go.Proofs.Ytcmjadnegoelhaa.Pure
