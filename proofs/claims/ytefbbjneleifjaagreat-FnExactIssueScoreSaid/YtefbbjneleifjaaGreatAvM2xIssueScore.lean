/- plain laws -/
import Derived.Test.YtefbbjneleifjaaGreatAvFormatFillxIssueScore
namespace Go.Proofs
open Go Go.Av
set_option maxRecDepth 100000
set_option maxHeartbeats 4000000
set_option linter.unusedVariables false
set_option linter.unusedSimpArgs false
namespace Lw
theorem tw_spec (p : Nat → Bool) : ∀ K, ∃ m, m = ((List.range K).takeWhile p).length ∧ m ≤ K ∧ (∀ i, i < m → p i = true) ∧ (m < K → p m = false)
  | 0 => ⟨0, rfl, Nat.le_refl _, by simp, by simp⟩
  | K + 1 => by
    obtain ⟨m, e, h1, h2, h3⟩ := tw_spec p K
    rw [List.range_succ]
    by_cases hm : m < K
    · refine ⟨m, ?_, by omega, h2, fun _ => h3 hm⟩
      have hlt : ((List.range K).takeWhile p).length < (List.range K).length := by rw [← e, List.length_range]; exact hm
      rw [List.takeWhile_append, if_neg (by omega), ← e]
    · have hK : m = K := by omega
      have hall : ((List.range K).takeWhile p).length = (List.range K).length := by rw [← e, List.length_range, hK]
      rw [List.takeWhile_append, if_pos hall]
      cases hp : p K with
      | true =>
        refine ⟨K + 1, by simp [hp], Nat.le_refl _, fun i hi => ?_, by omega⟩
        by_cases h : i = K
        · rw [h, hp]
        · exact h2 i (by omega)
      | false => exact ⟨K, by simp [hp], by omega, fun i hi => h2 i (by omega), fun _ => hp⟩
def dot (g : Gx.Grid) (k : Nat) : Bool := g.mCells.getD k 0 == 46
def dStep (g : Gx.Grid) (down : Bool) : Nat := if down = true then g.mCols.toNat else 1
def dPlace (g : Gx.Grid) (c : Nat) (down : Bool) : Nat := if down = true then c / g.mCols.toNat else c % g.mCols.toNat
def dSide (g : Gx.Grid) (down : Bool) : Nat := if down = true then g.mRows.toNat else g.mCols.toNat
def runN (g : Gx.Grid) (c : Nat) (down : Bool) : Nat :=
  if dot g c = true then
    if 0 < dPlace g c down ∧ dot g (c - dStep g down) = true then 0
    else ((List.range (dSide g down - dPlace g c down)).takeWhile fun k => dot g (c + k * dStep g down)).length
  else 0
theorem dot_byte {g : Gx.Grid} {k : Nat} (h : k < g.mCells.length) : ((byteI g.mCells (k : Int)) == 46) = dot g k := by
  have hx : g.mCells[k]? = some g.mCells[k] := List.getElem?_eq_getElem h
  rw [byteI_nat hx, eq46, dot, List.getD_eq_getElem?_getD, hx]; rfl
theorem in_grid {R C c k : Nat} (down : Bool) (hC : 0 < C) (hc : c < R * C) (h : (if down = true then c / C else c % C) + k < (if down = true then R else C)) : c + k * (if down = true then C else 1) < R * C := by
  cases down with
  | true =>
    simp only [if_true] at h ⊢
    have h1 := Nat.div_add_mod c C
    have h2 := Nat.mod_lt c hC
    have h3 : (c / C + k + 1) * C ≤ R * C := Nat.mul_le_mul_right _ (by omega)
    rw [Nat.succ_mul, Nat.add_mul, Nat.mul_comm (c / C)] at h3
    omega
  | false =>
    simp only [Bool.false_eq_true, if_false] at h ⊢
    have h1 := Nat.div_add_mod c C
    have h4 : c / C < R := by rw [Nat.div_lt_iff_lt_mul hC]; exact hc
    have h3 : (c / C + 1) * C ≤ R * C := Nat.mul_le_mul_right _ (by omega)
    rw [Nat.succ_mul, Nat.mul_comm (c / C)] at h3
    omega
theorem runN_le {g : Gx.Grid} {R C : Nat} (D : Dims g R C) (c : Nat) (down : Bool) : runN g c down ≤ 6 := by
  have e1 : g.mRows.toNat = R := by rw [D.r]; rfl
  have e2 : g.mCols.toNat = C := by rw [D.c]; rfl
  have := D.r2; have := D.c2
  unfold runN
  split
  · split
    · omega
    · obtain ⟨m, e, h1, _⟩ := tw_spec (fun k => dot g (c + k * dStep g down)) (dSide g down - dPlace g c down)
      rw [← e]
      have : dSide g down ≤ 6 := by unfold dSide; split <;> omega
      omega
  · omega
/-- a run's cells lie in the grid -/
theorem runN_in {g : Gx.Grid} {R C : Nat} (D : Dims g R C) {c : Nat} (hc : c < R * C) (down : Bool) {k : Nat} (hk : k < runN g c down) : c + k * dStep g down < R * C := by
  have e1 : g.mRows.toNat = R := by rw [D.r]; rfl
  have e2 : g.mCols.toNat = C := by rw [D.c]; rfl
  unfold runN at hk
  split at hk
  · split at hk
    · omega
    · obtain ⟨m, e, h1, _⟩ := tw_spec (fun k => dot g (c + k * dStep g down)) (dSide g down - dPlace g c down)
      rw [← e] at hk
      have := in_grid (R := R) (C := C) (c := c) (k := k) down (by have := D.c2; omega) hc (by
        unfold dSide dPlace at h1
        rw [e1, e2] at h1
        have := D.c2
        cases down <;> simp only [if_true, Bool.false_eq_true, if_false] at h1 ⊢ <;> omega)
      unfold dStep
      rw [e2]
      exact this
  · omega
theorem p_i_run {N : Nat} (hN : 1048577 < N) {g : Gx.Grid} {R C : Nat} (D : Dims g R C) {c : Nat} (hc : c < R * C) (down : Bool) : i_run N g (c : Int) down = some ((runN g c down : Nat) : Int) := by
  have e1 : g.mRows.toNat = R := by rw [D.r]; rfl
  have e2 : g.mCols.toNat = C := by rw [D.c]; rfl
  have h36 := rc36 D.r2.2 D.c2.2
  have hlen := D.len
  have hc0 : ((C : Int) ≠ 0) := by have := D.c2; omega
  unfold i_run
  rw [D.c, chk_pos hc0]
  have et : (sel down (chk ((C : Int) ≠ 0) <| some ((C : Int), w64 (Int.tdiv (c : Int) (C : Int)), g.mRows)) (some ((1 : Int), Int.tmod (c : Int) (C : Int), (C : Int)))) =
      some (((dStep g down : Nat) : Int), ((dPlace g c down : Nat) : Int), ((dSide g down : Nat) : Int)) := by
    unfold dStep dPlace dSide
    rw [e1, e2]
    cases down with
    | true =>
      rw [sel_true, chk_pos hc0, if_pos rfl, if_pos rfl, if_pos rfl, D.r]
      have : Int.tdiv (c : Int) (C : Int) = ((c / C : Nat) : Int) := by rw [Int.tdiv_eq_ediv_of_nonneg (by omega)]; rfl
      have h2 := Nat.div_le_self c C
      rw [this]
      generalize c / C = q at h2
      rw [w64_in (by omega) (by omega)]
    | false =>
      rw [sel_false, if_neg (by simp), if_neg (by simp), if_neg (by simp)]
      have : Int.tmod (c : Int) (C : Int) = ((c % C : Nat) : Int) := by rw [Int.tmod_eq_emod_of_nonneg (by omega)]; rfl
      rw [this]; rfl
  rw [et, bnd_mk, chk_pos ⟨by omega, by omega⟩]
  have hb : ((byteI g.mCells (c : Int)) != 46) = !(dot g c) := by simp only [bne]; rw [dot_byte (by omega)]
  rw [hb, sel_not]
  unfold runN
  cases hd : dot g c with
  | false => rfl
  | true =>
    rw [sel_true, if_pos rfl]
    have hpl : dPlace g c down ≤ c := by
      unfold dPlace; split
      · exact Nat.div_le_self _ _
      · exact Nat.mod_le _ _
    have hside : dSide g down ≤ 6 := by unfold dSide; have := D.r2; have := D.c2; split <;> omega
    have hstep : dStep g down ≤ 6 := by unfold dStep; have := D.r2; have := D.c2; split <;> omega
    have hback : 0 < dPlace g c down → dStep g down ≤ c := by
      intro h
      unfold dPlace at h; unfold dStep
      cases down with
      | true =>
        simp only [if_true] at h ⊢
        have := Nat.div_add_mod c g.mCols.toNat
        have h3 : 1 * g.mCols.toNat ≤ (c / g.mCols.toNat) * g.mCols.toNat := Nat.mul_le_mul_right _ h
        rw [Nat.mul_comm (c / _)] at h3
        omega
      | false =>
        simp only [Bool.false_eq_true, if_false] at h ⊢
        have := Nat.mod_le c g.mCols.toNat
        omega
    have loop : bnd (α := Int) (loopN (i_run_L1 N (((dStep g down : Nat) : Int), ((dPlace g c down : Nat) : Int), ((dSide g down : Nat) : Int)) (c : Int) g) N 0) (fun t3 => some t3) =
        some ((((List.range (dSide g down - dPlace g c down)).takeWhile fun k => dot g (c + k * dStep g down)).length : Nat) : Int) := by
      obtain ⟨m, e, h1, h2, h3⟩ := tw_spec (fun k => dot g (c + k * dStep g down)) (dSide g down - dPlace g c down)
      rw [← e]
      have rdx : ∀ k, dPlace g c down + k < dSide g down → c + k * dStep g down < R * C := by
        intro k hk
        have := in_grid (R := R) (C := C) (c := c) (k := k) down (by have := D.c2; omega) hc (by
          unfold dSide dPlace at hk
          rw [e1, e2] at hk
          exact hk)
        unfold dStep
        rw [e2]; exact this
      have key := loopN_inv (N := N) (step := i_run_L1 N (((dStep g down : Nat) : Int), ((dPlace g c down : Nat) : Int), ((dSide g down : Nat) : Int)) (c : Int) g) (fun i => (i : Int)) (n := m) (b := (m : Int)) (fun i hi => by
        have hin := rdx i (by omega)
        have hm6 : i * dStep g down ≤ 6 * 6 := Nat.mul_le_mul (by omega) hstep
        unfold i_run_L1
        simp only
        rw [w64_in (n := ((dPlace g c down : Nat) : Int) + (i : Int)) (by omega) (by omega), sel_pos (by omega)]
        have ew : w64 ((c : Int) + w64 ((i : Int) * ((dStep g down : Nat) : Int))) = ((c + i * dStep g down : Nat) : Int) := by
          rw [← Int.natCast_mul, w64_in (n := ((i * dStep g down : Nat) : Int)) (by omega) (by omega), w64_in (by omega) (by omega)]; rfl
        rw [ew, chk_pos ⟨by omega, by omega⟩, dot_byte (by omega), h2 i hi, sel_true, w64_nat (by omega)]) (by
        unfold i_run_L1
        simp only
        rw [w64_in (n := ((dPlace g c down : Nat) : Int) + (m : Int)) (by omega) (by omega)]
        by_cases hm : m < dSide g down - dPlace g c down
        · have hin := rdx m (by omega)
          have hm6 : m * dStep g down ≤ 6 * 6 := Nat.mul_le_mul (by omega) hstep
          rw [sel_pos (by omega)]
          have ew : w64 ((c : Int) + w64 ((m : Int) * ((dStep g down : Nat) : Int))) = ((c + m * dStep g down : Nat) : Int) := by
            rw [← Int.natCast_mul, w64_in (n := ((m * dStep g down : Nat) : Int)) (by omega) (by omega), w64_in (by omega) (by omega)]; rfl
          rw [ew, chk_pos ⟨by omega, by omega⟩, dot_byte (by omega), h3 hm, sel_false]
        · rw [sel_neg (by omega)]) (by omega)
      rw [show (0 : Int) = ((0 : Nat) : Int) from rfl, key]; rfl
    simp only
    by_cases hp : 0 < dPlace g c down
    · have hb2 := hback hp
      rw [sel_pos (by omega)]
      have ew : w64 ((c : Int) - ((dStep g down : Nat) : Int)) = ((c - dStep g down : Nat) : Int) := by rw [w64_in (by omega) (by omega)]; omega
      rw [ew, chk_pos ⟨by omega, by omega⟩, dot_byte (by omega)]
      cases h4 : dot g (c - dStep g down) with
      | true => rw [sel_true, cutb_rt, if_pos ⟨hp, rfl⟩]; rfl
      | false => rw [sel_false, cutb_nx, if_neg (by simp), loop]
    · rw [sel_neg (by omega), cutb_nx, if_neg (by omega), loop]
theorem e_run (N : Nat) (g : Gx.Grid) (c : Int) (d : Bool) : s_l8From N g c d = i_run N g c d := rfl
def slotsTo (g : Gx.Grid) : Nat → List Gx.Slot × Nat
  | 0 => ([], 0)
  | c + 1 =>
    let n := if 2 ≤ runN g c false ∨ 2 ≤ runN g c true then (slotsTo g c).2 + 1 else (slotsTo g c).2
    ((slotsTo g c).1 ++ (if 2 ≤ runN g c false then [(⟨(n : Int), false, (c : Int), (runN g c false : Nat)⟩ : Gx.Slot)] else []) ++ (if 2 ≤ runN g c true then [(⟨(n : Int), true, (c : Int), (runN g c true : Nat)⟩ : Gx.Slot)] else []), n)
def slots (g : Gx.Grid) : List Gx.Slot := if isGrid g = true then (slotsTo g g.mCells.length).1 else []
theorem slotsTo_len (g : Gx.Grid) : ∀ c, (slotsTo g c).1.length ≤ 2 * c ∧ (slotsTo g c).2 ≤ c
  | 0 => ⟨Nat.le_refl _, Nat.le_refl _⟩
  | c + 1 => by
    obtain ⟨h1, h2⟩ := slotsTo_len g c
    by_cases ha : 2 ≤ runN g c false <;> by_cases hd : 2 ≤ runN g c true <;> simp [slotsTo, ha, hd] <;> omega
theorem slot_round {N : Nat} (hN : 1048577 < N) {g : Gx.Grid} {R C : Nat} (D : Dims g R C) {c : Nat} (hc : c < R * C) :
    (bnd (i_run N g (c : Int) false) fun x2 =>
    bnd (i_run N g (c : Int) true) fun x3 =>
    bnd (α := Int) (
      sel (decide (x2 ≥ 2))
        (some (w64 (((slotsTo g c).2 : Int) + 1)))
        (sel (decide (x3 ≥ 2))
          (some (w64 (((slotsTo g c).2 : Int) + 1)))
          (some ((slotsTo g c).2 : Int)))) fun t4 =>
    bnd (α := (List (Gx.Slot))) (
      sel (decide (x2 ≥ 2))
        (chk ((slotsTo g c).1.length + ([(⟨t4, false, (c : Int), x2⟩ : Gx.Slot)]).length ≤ 274877906944) <|
        some ((slotsTo g c).1 ++ ([(⟨t4, false, (c : Int), x2⟩ : Gx.Slot)])))
        (some (slotsTo g c).1)) fun t5 =>
    sel (decide (x3 ≥ 2))
      (chk (t5.length + ([(⟨t4, true, (c : Int), x3⟩ : Gx.Slot)]).length ≤ 274877906944) <|
      some (Sum.inl (β := List Gx.Slot) (t5 ++ ([(⟨t4, true, (c : Int), x3⟩ : Gx.Slot)]), t4, w64 ((c : Int) + 1))))
      (some (Sum.inl (β := List Gx.Slot) (t5, t4, w64 ((c : Int) + 1))))) = some (Sum.inl ((slotsTo g (c + 1)).1, (((slotsTo g (c + 1)).2 : Nat) : Int), ((c + 1 : Nat) : Int))) := by
  have h36 := rc36 D.r2.2 D.c2.2
  obtain ⟨l1, l2⟩ := slotsTo_len g c
  rw [p_i_run hN D hc, p_i_run hN D hc, bnd_mk, bnd_mk, w64_nat (by omega), w64_nat (by omega)]
  simp only [slotsTo]
  generalize runN g c false = a
  generalize runN g c true = d
  generalize slotsTo g c = q at l1 l2 ⊢
  by_cases ha : 2 ≤ a <;> by_cases hd : 2 ≤ d
  · rw [sel_pos (by omega), bnd_mk, sel_pos (by omega), chk_pos (by simp; omega), bnd_mk, sel_pos (by omega), chk_pos (by simp; omega)]
    simp [ha, hd]
  · rw [sel_pos (by omega), bnd_mk, sel_pos (by omega), chk_pos (by simp; omega), bnd_mk, sel_neg (by omega)]
    simp [ha, hd]
  · rw [sel_neg (by omega), sel_pos (by omega), bnd_mk, sel_neg (by omega), bnd_mk, sel_pos (by omega), chk_pos (by simp; omega)]
    simp [ha, hd]
  · rw [sel_neg (by omega), sel_neg (by omega), bnd_mk, sel_neg (by omega), bnd_mk, sel_neg (by omega)]
    simp [ha, hd]
theorem p_i_SlotsOf {N : Nat} (hN : 1048577 < N) (g : Gx.Grid) : i_SlotsOf N g = some (slots g) := by
  unfold i_SlotsOf slots
  rw [p_i_IsGrid hN, bnd_mk, sel_not]
  cases hg : isGrid g with
  | false => rfl
  | true =>
    obtain ⟨R, C, D⟩ := (isGrid_ok hg).dims
    have h36 := rc36 D.r2.2 D.c2.2
    have hlen := D.len
    rw [sel_true, if_pos rfl]
    have := loopN_inv (N := N) (step := i_SlotsOf_L1 N g) (fun i => ((slotsTo g i).1, (((slotsTo g i).2 : Nat) : Int), (i : Int))) (n := g.mCells.length) (b := (slotsTo g g.mCells.length).1) (fun i hi => by
      unfold i_SlotsOf_L1
      simp only
      rw [sel_pos (by omega)]
      exact slot_round hN D (by omega)) (by
      unfold i_SlotsOf_L1
      simp only
      rw [sel_neg (by omega)]) (by omega)
    rw [show (([] : List Gx.Slot), (0 : Int), (0 : Int)) = ((slotsTo g 0).1, (((slotsTo g 0).2 : Nat) : Int), ((0 : Nat) : Int)) from rfl, this, bnd_mk]
theorem p_s_SlotsOf {N : Nat} (hN : 1048577 < N) (g : Gx.Grid) (hl : g.mCells.length ≤ 1048576) : s_SlotsOf N g = some (slots g) := by
  unfold s_SlotsOf slots
  cases hg : isGrid g with
  | false =>
    rw [if_neg (by simp)]
    have : loopN (s_SlotsOf_L1 N g) N ([], 0, 0) = some [] := by
      refine loopN_inv (N := N) (step := s_SlotsOf_L1 N g) (fun _ => ([], 0, 0)) (n := 0) (b := []) (fun i hi => by omega) ?_ (by omega)
      unfold s_SlotsOf_L1
      simp only
      rw [p_s_IsGrid hN, bnd_mk, hg, sel_false, sel_ite]
      split <;> rfl
    rw [this, bnd_mk]
  | true =>
    obtain ⟨R, C, D⟩ := (isGrid_ok hg).dims
    have h36 := rc36 D.r2.2 D.c2.2
    have hlen := D.len
    rw [if_pos rfl]
    have := loopN_inv (N := N) (step := s_SlotsOf_L1 N g) (fun i => ((slotsTo g i).1, (((slotsTo g i).2 : Nat) : Int), (i : Int))) (n := g.mCells.length) (b := (slotsTo g g.mCells.length).1) (fun i hi => by
      unfold s_SlotsOf_L1
      simp only
      rw [sel_pos (by omega), p_s_IsGrid hN, bnd_mk, hg, sel_true]
      simp only [e_run]
      exact slot_round hN D (by omega)) (by
      unfold s_SlotsOf_L1
      simp only
      rw [sel_neg (by omega)]) (by omega)
    rw [show (([] : List Gx.Slot), (0 : Int), (0 : Int)) = ((slotsTo g 0).1, (((slotsTo g 0).2 : Nat) : Int), ((0 : Nat) : Int)) from rfl, this, bnd_mk]
/-- what is known of a slot -/
structure SlotIn (g : Gx.Grid) (R C : Nat) (s : Gx.Slot) (c : Nat) : Prop where
  cell : s.mCell = (c : Int)
  lt : c < R * C
  len : s.mLength = ((runN g c s.mDown : Nat) : Int)
  two : 2 ≤ runN g c s.mDown
theorem slotsTo_in {g : Gx.Grid} {R C : Nat} : ∀ n, n ≤ R * C → ∀ s ∈ (slotsTo g n).1, ∃ c, c < n ∧ SlotIn g R C s c
  | 0, _, s, h => by simp [slotsTo] at h
  | n + 1, hn, s, h => by
    simp only [slotsTo, List.mem_append] at h
    rcases h with (h | h) | h
    · obtain ⟨c, h1, h2⟩ := slotsTo_in (R := R) (C := C) n (by omega) s h
      exact ⟨c, by omega, h2⟩
    · split at h
      · rename_i h2
        simp only [List.mem_cons, List.not_mem_nil, or_false] at h
        subst h
        exact ⟨n, by omega, rfl, by omega, rfl, h2⟩
      · simp at h
    · split at h
      · rename_i h2
        simp only [List.mem_cons, List.not_mem_nil, or_false] at h
        subst h
        exact ⟨n, by omega, rfl, by omega, rfl, h2⟩
      · simp at h
theorem slotsTo_nodup {g : Gx.Grid} {R C : Nat} : ∀ n, n ≤ R * C → (slotsTo g n).1.Nodup
  | 0, _ => by simp [slotsTo]
  | n + 1, hn => by
    have ih := slotsTo_nodup (g := g) (R := R) (C := C) n (by omega)
    have old := slotsTo_in (g := g) (R := R) (C := C) n (by omega)
    have fresh : ∀ (m l : Int) (d : Bool), (⟨m, d, (n : Int), l⟩ : Gx.Slot) ∉ (slotsTo g n).1 := by
      intro m l d h
      obtain ⟨c, h1, h2⟩ := old _ h
      have := h2.cell
      simp only at this
      omega
    have snoc : ∀ (l : List Gx.Slot) (x : Gx.Slot), l.Nodup → x ∉ l → (l ++ [x]).Nodup := by
      intro l x h1 h2
      rw [List.nodup_append]
      refine ⟨h1, by simp, fun a ha b hb e => ?_⟩
      simp only [List.mem_cons, List.not_mem_nil, or_false] at hb
      subst e; subst hb; exact h2 ha
    simp only [slotsTo]
    by_cases ha : 2 ≤ runN g n false
    · rw [if_pos ha]
      by_cases hd : 2 ≤ runN g n true
      · rw [if_pos hd]
        refine snoc _ _ (snoc _ _ ih (fresh _ _ _)) fun h => ?_
        rcases List.mem_append.1 h with h | h
        · exact fresh _ _ _ h
        · simp at h
      · rw [if_neg hd, List.append_nil]
        exact snoc _ _ ih (fresh _ _ _)
    · rw [if_neg ha, List.append_nil]
      by_cases hd : 2 ≤ runN g n true
      · rw [if_pos hd]
        exact snoc _ _ ih (fresh _ _ _)
      · rw [if_neg hd, List.append_nil]
        exact ih
end Lw
end Go.Proofs
