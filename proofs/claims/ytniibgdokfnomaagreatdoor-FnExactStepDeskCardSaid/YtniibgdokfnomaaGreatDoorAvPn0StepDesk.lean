/- plain laws -/
import Derived.Test.YtniibgdokfnomaaGreatDoorAvPhStepDesk
namespace Go.Proofs
open Go Go.Av
set_option maxRecDepth 100000
set_option maxHeartbeats 40000000
set_option linter.unusedVariables false
set_option linter.unusedSimpArgs false
namespace Lw
theorem p_s_l1In (N : Nat) (n a b : Int) : s_l1In N n a b = some (decide (a ≤ n ∧ n ≤ b)) := by
 unfold s_l1In
 rw [sel_ite]
 split <;> simp <;> omega
theorem p_i_InRange (N : Nat) (n a b : Int) : i_InRange N n a b = some (decide (a ≤ n ∧ n ≤ b)) := by
 unfold i_InRange
 rw [sel_ite]
 split <;> simp <;> omega
/-- a lower-case letter -/
def isLet (c : UInt8) : Bool := decide (97 ≤ c.toNat ∧ c.toNat ≤ 122)
theorem p_i_isLetter (N : Nat) (c : UInt8) : i_isLetter N (c.toNat : Int) = some (isLet c) := by
 unfold i_isLetter isLet
 rw [sel_ite]
 split
 ·rw [Option.some.injEq, decide_eq_decide]; omega
 ·rw [Option.some.injEq, eq_comm, decide_eq_false_iff_not]; omega
def okCell (c : UInt8) : Bool := c == 35 || c == 46
def isGrid (g : Gx.Grid) : Bool := decide (2 ≤ g.mRows ∧ g.mRows ≤ 6) && decide (2 ≤ g.mCols ∧ g.mCols ≤ 6) && decide ((g.mCells.length : Int) = g.mRows * g.mCols) && g.mCells.all okCell
theorem grid_small {g : Gx.Grid} (h1 : 2 ≤ g.mRows ∧ g.mRows ≤ 6) (h2 : 2 ≤ g.mCols ∧ g.mCols ≤ 6) : 0 ≤ g.mRows * g.mCols ∧ g.mRows * g.mCols ≤ 36 :=
 ⟨Int.mul_nonneg (by omega) (by omega), Int.le_trans (Int.mul_le_mul h1.2 h2.2 (by omega) (by omega)) (by omega)⟩
theorem cell_ne (c : UInt8) : ((c.toNat : Int) != 35) = (c != 35) := by simp only [bne]; rw [show (35 : Int) = ((35 : Nat) : Int) from rfl, u8_eq (by omega)]; rfl
theorem cell_ne' (c : UInt8) : ((c.toNat : Int) != 46) = (c != 46) := by simp only [bne]; rw [show (46 : Int) = ((46 : Nat) : Int) from rfl, u8_eq (by omega)]; rfl
theorem cells_loop {N : Nat} (g : Gx.Grid) (h : g.mCells.length ≤ 36) (hN : 67108864 < N) {step : Int → Option (Sum Int (Cut Unit Bool))}
  (hs : ∀ p, step p = sel (decide (p < (g.mCells.length : Int))) (chk (0 ≤ p ∧ p < (g.mCells.length : Int)) <| sel ((byteI g.mCells p) != 35) (chk (0 ≤ p ∧ p < (g.mCells.length : Int)) <| sel ((byteI g.mCells p) != 46) (some (.inr (.rt false))) (some (.inl (w64 (p + 1))))) (some (.inl (w64 (p + 1))))) (some (.inr (.nx ())))) :
  cutb (loopN step N 0) (fun _ => some true) = some (g.mCells.all okCell) := by
 rw [loop_all (l := g.mCells) okCell (b := false) (fun i x hx hi => by
  rw [hs, sel_pos (by omega), chk_pos ⟨by omega, by omega⟩, chk_pos ⟨by omega, by omega⟩, byteI_nat hx, cell_ne, cell_ne']
  unfold okCell
  by_cases h1 : x = 35
  ·subst h1; rfl
  ·by_cases h2 : x = 46
   ·subst h2; rfl
   ·have e1 : (x != 35) = true := by simpa using h1
    have e2 : (x != 46) = true := by simpa using h2
    rw [e1, e2]; simp [h1, h2]) (by rw [hs, sel_neg (by omega)]) (by omega) (by omega)]
 split <;> simp_all
theorem p_s_IsGrid {N : Nat} (hN : 67108864 < N) (g : Gx.Grid) : s_IsGrid N g = some (isGrid g) := by
 unfold s_IsGrid isGrid
 rw [p_s_l1In, p_s_l1In]
 simp only [bnd_mk, sel_not, sel_ite]
 split
 ·rename_i h1
  split
  ·rename_i h2
   have hm := grid_small h1 h2
   rw [w64_in (by omega) (by omega)]
   by_cases h3 : (g.mCells.length : Int) = g.mRows * g.mCols
   ·have e : ((g.mCells.length : Int) != g.mRows * g.mCols) = false := by simpa using h3
    rw [e, sel_false, cells_loop g (by omega) hN (step := s_IsGrid_L1 N g) (fun p => rfl)]
    simp [h1, h2, h3]
   ·have e : ((g.mCells.length : Int) != g.mRows * g.mCols) = true := by simpa using h3
    rw [e]; simp [h3]
  ·rename_i h2; simp [h2]
 ·rename_i h1; simp [h1]
theorem p_i_IsGrid {N : Nat} (hN : 67108864 < N) (g : Gx.Grid) : i_IsGrid N g = some (isGrid g) := by
 unfold i_IsGrid isGrid
 rw [p_i_InRange, p_i_InRange]
 simp only [bnd_mk, sel_not, sel_ite]
 split
 ·rename_i h1
  split
  ·rename_i h2
   have hm := grid_small h1 h2
   rw [w64_in (by omega) (by omega)]
   by_cases h3 : (g.mCells.length : Int) = g.mRows * g.mCols
   ·have e : ((g.mCells.length : Int) != g.mRows * g.mCols) = false := by simpa using h3
    rw [e, sel_false, cells_loop g (by omega) hN (step := i_IsGrid_L1 N g) (fun p => rfl)]
    simp [h1, h2, h3]
   ·have e : ((g.mCells.length : Int) != g.mRows * g.mCols) = true := by simpa using h3
    rw [e]; simp [h3]
  ·rename_i h2; simp [h2]
 ·rename_i h1; simp [h1]
structure GridOk (g : Gx.Grid) : Prop where
 rows : 2 ≤ g.mRows ∧ g.mRows ≤ 6
 cols : 2 ≤ g.mCols ∧ g.mCols ≤ 6
 len : (g.mCells.length : Int) = g.mRows * g.mCols
 cells : ∀ c ∈ g.mCells, c = 35 ∨ c = 46
theorem isGrid_ok {g : Gx.Grid} (h : isGrid g = true) : GridOk g := by
 unfold isGrid at h
 simp only [Bool.and_eq_true, decide_eq_true_eq, List.all_eq_true] at h
 refine ⟨h.1.1.1, h.1.1.2, h.1.2, fun c hc => ?_⟩
 have := h.2 c hc
 simpa [okCell] using this
theorem GridOk.small {g : Gx.Grid} (h : GridOk g) : g.mCells.length ≤ 36 := by have := grid_small h.rows h.cols; have := h.len; omega
theorem eq35 (b : UInt8) : ((b.toNat : Int) == 35) = (b == 35) := by rw [show (35 : Int) = ((35 : Nat) : Int) from rfl, u8_eq (by omega)]; rfl
theorem eq46 (b : UInt8) : ((b.toNat : Int) == 46) = (b == 46) := by rw [show (46 : Int) = ((46 : Nat) : Int) from rfl, u8_eq (by omega)]; rfl
structure Dims (g : Gx.Grid) (R C : Nat) : Prop where
 r : g.mRows = (R : Int)
 c : g.mCols = (C : Int)
 r2 : 2 ≤ R ∧ R ≤ 6
 c2 : 2 ≤ C ∧ C ≤ 6
 len : g.mCells.length = R * C
theorem GridOk.dims {g : Gx.Grid} (h : GridOk g) : ∃ R C, Dims g R C := by
 refine ⟨g.mRows.toNat, g.mCols.toNat, ?_, ?_, ?_, ?_, ?_⟩ <;> have := h.rows <;> have := h.cols <;> have hl := h.len
 ·omega
 ·omega
 ·omega
 ·omega
 ·have e : ((g.mRows.toNat * g.mCols.toNat : Nat) : Int) = g.mRows * g.mCols := by
   rw [Int.natCast_mul, Int.toNat_of_nonneg (by omega), Int.toNat_of_nonneg (by omega)]
  omega
theorem rc36 {R C : Nat} (h1 : R ≤ 6) (h2 : C ≤ 6) : R * C ≤ 36 := Nat.mul_le_mul h1 h2
theorem tw_spec (p : Nat → Bool) : ∀ K, ∃ m, m = ((List.range K).takeWhile p).length ∧ m ≤ K ∧ (∀ i, i < m → p i = true) ∧ (m < K → p m = false)
 | 0 => ⟨0, rfl, Nat.le_refl _, by simp, by simp⟩
 | K + 1 => by
  obtain ⟨m, e, h1, h2, h3⟩ := tw_spec p K
  rw [List.range_succ]
  by_cases hm : m < K
  ·refine ⟨m, ?_, by omega, h2, fun _ => h3 hm⟩
   have hlt : ((List.range K).takeWhile p).length < (List.range K).length := by rw [← e, List.length_range]; exact hm
   rw [List.takeWhile_append, if_neg (by omega), ← e]
  ·have hK : m = K := by omega
   have hall : ((List.range K).takeWhile p).length = (List.range K).length := by rw [← e, List.length_range, hK]
   rw [List.takeWhile_append, if_pos hall]
   cases hp : p K with
   | true =>
    refine ⟨K + 1, by simp [hp], Nat.le_refl _, fun i hi => ?_, by omega⟩
    by_cases h : i = K
    ·rw [h, hp]
    ·exact h2 i (by omega)
   | false => exact ⟨K, by simp [hp], by omega, fun i hi => h2 i (by omega), fun _ => hp⟩
def dot (g : Gx.Grid) (k : Nat) : Bool := g.mCells.getD k 0 == 46
def dStep (g : Gx.Grid) (down : Bool) : Nat := if down = true then g.mCols.toNat else 1
def dPlace (g : Gx.Grid) (c : Nat) (down : Bool) : Nat := if down = true then c / g.mCols.toNat else c % g.mCols.toNat
def dSide (g : Gx.Grid) (down : Bool) : Nat := if down = true then g.mRows.toNat else g.mCols.toNat
def runN (g : Gx.Grid) (c : Nat) (down : Bool) : Nat :=
 if dot g c = true then
  if 0 < dPlace g c down ∧ dot g (c - dStep g down) = true then 0
  else ((List.range (dSide g down - dPlace g c down)).takeWhile fun k => dot g (c + k * dStep g down)).length
 else 0
theorem dot_byte {g : Gx.Grid} {k : Nat} (h : k < g.mCells.length) : ((byteI g.mCells (k : Int)) == 46) = dot g k := by
 have hx : g.mCells[k]? = some g.mCells[k] := List.getElem?_eq_getElem h
 rw [byteI_nat hx, eq46, dot, List.getD_eq_getElem?_getD, hx]; rfl
theorem in_grid {R C c k : Nat} (down : Bool) (hC : 0 < C) (hc : c < R * C) (h : (if down = true then c / C else c % C) + k < (if down = true then R else C)) : c + k * (if down = true then C else 1) < R * C := by
 cases down with
 | true =>
  simp only [if_true] at h ⊢
  have h1 := Nat.div_add_mod c C
  have h2 := Nat.mod_lt c hC
  have h3 : (c / C + k + 1) * C ≤ R * C := Nat.mul_le_mul_right _ (by omega)
  rw [Nat.succ_mul, Nat.add_mul, Nat.mul_comm (c / C)] at h3
  omega
 | false =>
  simp only [Bool.false_eq_true, if_false] at h ⊢
  have h1 := Nat.div_add_mod c C
  have h4 : c / C < R := by rw [Nat.div_lt_iff_lt_mul hC]; exact hc
  have h3 : (c / C + 1) * C ≤ R * C := Nat.mul_le_mul_right _ (by omega)
  rw [Nat.succ_mul, Nat.mul_comm (c / C)] at h3
  omega
theorem runN_le {g : Gx.Grid} {R C : Nat} (D : Dims g R C) (c : Nat) (down : Bool) : runN g c down ≤ 6 := by
 have e1 : g.mRows.toNat = R := by rw [D.r]; rfl
 have e2 : g.mCols.toNat = C := by rw [D.c]; rfl
 have := D.r2; have := D.c2
 unfold runN
 split
 ·split
  ·omega
  ·obtain ⟨m, e, h1, _⟩ := tw_spec (fun k => dot g (c + k * dStep g down)) (dSide g down - dPlace g c down)
   rw [← e]
   have : dSide g down ≤ 6 := by unfold dSide; split <;> omega
   omega
 ·omega
/-- a run's cells lie in the grid -/
theorem runN_in {g : Gx.Grid} {R C : Nat} (D : Dims g R C) {c : Nat} (hc : c < R * C) (down : Bool) {k : Nat} (hk : k < runN g c down) : c + k * dStep g down < R * C := by
 have e1 : g.mRows.toNat = R := by rw [D.r]; rfl
 have e2 : g.mCols.toNat = C := by rw [D.c]; rfl
 unfold runN at hk
 split at hk
 ·split at hk
  ·omega
  ·obtain ⟨m, e, h1, _⟩ := tw_spec (fun k => dot g (c + k * dStep g down)) (dSide g down - dPlace g c down)
   rw [← e] at hk
   have := in_grid (R := R) (C := C) (c := c) (k := k) down (by have := D.c2; omega) hc (by
    unfold dSide dPlace at h1
    rw [e1, e2] at h1
    have := D.c2
    cases down <;> simp only [if_true, Bool.false_eq_true, if_false] at h1 ⊢ <;> omega)
   unfold dStep
   rw [e2]
   exact this
 ·omega
theorem p_i_run {N : Nat} (hN : 67108864 < N) {g : Gx.Grid} {R C : Nat} (D : Dims g R C) {c : Nat} (hc : c < R * C) (down : Bool) : i_run N g (c : Int) down = some ((runN g c down : Nat) : Int) := by
 have e1 : g.mRows.toNat = R := by rw [D.r]; rfl
 have e2 : g.mCols.toNat = C := by rw [D.c]; rfl
 have h36 := rc36 D.r2.2 D.c2.2
 have hlen := D.len
 have hc0 : ((C : Int) ≠ 0) := by have := D.c2; omega
 unfold i_run
 rw [D.c, chk_pos hc0]
 have et : (sel down (chk ((C : Int) ≠ 0) <| some ((C : Int), w64 (Int.tdiv (c : Int) (C : Int)), g.mRows)) (some ((1 : Int), Int.tmod (c : Int) (C : Int), (C : Int)))) =
   some (((dStep g down : Nat) : Int), ((dPlace g c down : Nat) : Int), ((dSide g down : Nat) : Int)) := by
  unfold dStep dPlace dSide
  rw [e1, e2]
  cases down with
  | true =>
   rw [sel_true, chk_pos hc0, if_pos rfl, if_pos rfl, if_pos rfl, D.r]
   have : Int.tdiv (c : Int) (C : Int) = ((c / C : Nat) : Int) := by rw [Int.tdiv_eq_ediv_of_nonneg (by omega)]; rfl
   have h2 := Nat.div_le_self c C
   rw [this]
   generalize c / C = q at h2
   rw [w64_in (by omega) (by omega)]
  | false =>
   rw [sel_false, if_neg (by simp), if_neg (by simp), if_neg (by simp)]
   have : Int.tmod (c : Int) (C : Int) = ((c % C : Nat) : Int) := by rw [Int.tmod_eq_emod_of_nonneg (by omega)]; rfl
   rw [this]; rfl
 rw [et, bnd_mk, chk_pos ⟨by omega, by omega⟩]
 have hb : ((byteI g.mCells (c : Int)) != 46) = !(dot g c) := by simp only [bne]; rw [dot_byte (by omega)]
 rw [hb, sel_not]
 unfold runN
 cases hd : dot g c with
 | false => rfl
 | true =>
  rw [sel_true, if_pos rfl]
  have hpl : dPlace g c down ≤ c := by
   unfold dPlace; split
   ·exact Nat.div_le_self _ _
   ·exact Nat.mod_le _ _
  have hside : dSide g down ≤ 6 := by unfold dSide; have := D.r2; have := D.c2; split <;> omega
  have hstep : dStep g down ≤ 6 := by unfold dStep; have := D.r2; have := D.c2; split <;> omega
  have hback : 0 < dPlace g c down → dStep g down ≤ c := by
   intro h
   unfold dPlace at h; unfold dStep
   cases down with
   | true =>
    simp only [if_true] at h ⊢
    have := Nat.div_add_mod c g.mCols.toNat
    have h3 : 1 * g.mCols.toNat ≤ (c / g.mCols.toNat) * g.mCols.toNat := Nat.mul_le_mul_right _ h
    rw [Nat.mul_comm (c / _)] at h3
    omega
   | false =>
    simp only [Bool.false_eq_true, if_false] at h ⊢
    have := Nat.mod_le c g.mCols.toNat
    omega
  have loop : bnd (α := Int) (loopN (i_run_L1 N (((dStep g down : Nat) : Int), ((dPlace g c down : Nat) : Int), ((dSide g down : Nat) : Int)) (c : Int) g) N 0) (fun t3 => some t3) =
    some ((((List.range (dSide g down - dPlace g c down)).takeWhile fun k => dot g (c + k * dStep g down)).length : Nat) : Int) := by
   obtain ⟨m, e, h1, h2, h3⟩ := tw_spec (fun k => dot g (c + k * dStep g down)) (dSide g down - dPlace g c down)
   rw [← e]
   have rdx : ∀ k, dPlace g c down + k < dSide g down → c + k * dStep g down < R * C := by
    intro k hk
    have := in_grid (R := R) (C := C) (c := c) (k := k) down (by have := D.c2; omega) hc (by
     unfold dSide dPlace at hk
     rw [e1, e2] at hk
     exact hk)
    unfold dStep
    rw [e2]; exact this
   have key := loopN_inv (N := N) (step := i_run_L1 N (((dStep g down : Nat) : Int), ((dPlace g c down : Nat) : Int), ((dSide g down : Nat) : Int)) (c : Int) g) (fun i => (i : Int)) (n := m) (b := (m : Int)) (fun i hi => by
    have hin := rdx i (by omega)
    have hm6 : i * dStep g down ≤ 6 * 6 := Nat.mul_le_mul (by omega) hstep
    unfold i_run_L1
    simp only
    rw [w64_in (n := ((dPlace g c down : Nat) : Int) + (i : Int)) (by omega) (by omega), sel_pos (by omega)]
    have ew : w64 ((c : Int) + w64 ((i : Int) * ((dStep g down : Nat) : Int))) = ((c + i * dStep g down : Nat) : Int) := by
     rw [← Int.natCast_mul, w64_in (n := ((i * dStep g down : Nat) : Int)) (by omega) (by omega), w64_in (by omega) (by omega)]; rfl
    rw [ew, chk_pos ⟨by omega, by omega⟩, dot_byte (by omega), h2 i hi, sel_true, w64_nat (by omega)]) (by
    unfold i_run_L1
    simp only
    rw [w64_in (n := ((dPlace g c down : Nat) : Int) + (m : Int)) (by omega) (by omega)]
    by_cases hm : m < dSide g down - dPlace g c down
    ·have hin := rdx m (by omega)
     have hm6 : m * dStep g down ≤ 6 * 6 := Nat.mul_le_mul (by omega) hstep
     rw [sel_pos (by omega)]
     have ew : w64 ((c : Int) + w64 ((m : Int) * ((dStep g down : Nat) : Int))) = ((c + m * dStep g down : Nat) : Int) := by
      rw [← Int.natCast_mul, w64_in (n := ((m * dStep g down : Nat) : Int)) (by omega) (by omega), w64_in (by omega) (by omega)]; rfl
     rw [ew, chk_pos ⟨by omega, by omega⟩, dot_byte (by omega), h3 hm, sel_false]
    ·rw [sel_neg (by omega)]) (by omega)
   rw [show (0 : Int) = ((0 : Nat) : Int) from rfl, key]; rfl
  simp only
  by_cases hp : 0 < dPlace g c down
  ·have hb2 := hback hp
   rw [sel_pos (by omega)]
   have ew : w64 ((c : Int) - ((dStep g down : Nat) : Int)) = ((c - dStep g down : Nat) : Int) := by rw [w64_in (by omega) (by omega)]; omega
   rw [ew, chk_pos ⟨by omega, by omega⟩, dot_byte (by omega)]
   cases h4 : dot g (c - dStep g down) with
   | true => rw [sel_true, cutb_rt, if_pos ⟨hp, rfl⟩]; rfl
   | false => rw [sel_false, cutb_nx, if_neg (by simp), loop]
  ·rw [sel_neg (by omega), cutb_nx, if_neg (by omega), loop]
theorem e_run (N : Nat) (g : Gx.Grid) (c : Int) (d : Bool) : s_l8From N g c d = i_run N g c d := rfl
def slotsTo (g : Gx.Grid) : Nat → List Gx.Slot × Nat
 | 0 => ([], 0)
 | c + 1 =>
  let n := if 2 ≤ runN g c false ∨ 2 ≤ runN g c true then (slotsTo g c).2 + 1 else (slotsTo g c).2
  ((slotsTo g c).1 ++ (if 2 ≤ runN g c false then [(⟨(n : Int), false, (c : Int), (runN g c false : Nat)⟩ : Gx.Slot)] else []) ++ (if 2 ≤ runN g c true then [(⟨(n : Int), true, (c : Int), (runN g c true : Nat)⟩ : Gx.Slot)] else []), n)
def slots (g : Gx.Grid) : List Gx.Slot := if isGrid g = true then (slotsTo g g.mCells.length).1 else []
theorem slotsTo_len (g : Gx.Grid) : ∀ c, (slotsTo g c).1.length ≤ 2 * c ∧ (slotsTo g c).2 ≤ c
 | 0 => ⟨Nat.le_refl _, Nat.le_refl _⟩
 | c + 1 => by
  obtain ⟨h1, h2⟩ := slotsTo_len g c
  by_cases ha : 2 ≤ runN g c false <;> by_cases hd : 2 ≤ runN g c true <;> simp [slotsTo, ha, hd] <;> omega
theorem slot_round {N : Nat} (hN : 67108864 < N) {g : Gx.Grid} {R C : Nat} (D : Dims g R C) {c : Nat} (hc : c < R * C) :
  (bnd (i_run N g (c : Int) false) fun x2 =>
  bnd (i_run N g (c : Int) true) fun x3 =>
  bnd (α := Int) (
   sel (decide (x2 ≥ 2))
    (some (w64 (((slotsTo g c).2 : Int) + 1)))
    (sel (decide (x3 ≥ 2))
     (some (w64 (((slotsTo g c).2 : Int) + 1)))
     (some ((slotsTo g c).2 : Int)))) fun t4 =>
  bnd (α := (List (Gx.Slot))) (
   sel (decide (x2 ≥ 2))
    (chk ((slotsTo g c).1.length + ([(⟨t4, false, (c : Int), x2⟩ : Gx.Slot)]).length ≤ 274877906944) <|
    some ((slotsTo g c).1 ++ ([(⟨t4, false, (c : Int), x2⟩ : Gx.Slot)])))
    (some (slotsTo g c).1)) fun t5 =>
  sel (decide (x3 ≥ 2))
   (chk (t5.length + ([(⟨t4, true, (c : Int), x3⟩ : Gx.Slot)]).length ≤ 274877906944) <|
   some (Sum.inl (β := List Gx.Slot) (t5 ++ ([(⟨t4, true, (c : Int), x3⟩ : Gx.Slot)]), t4, w64 ((c : Int) + 1))))
   (some (Sum.inl (β := List Gx.Slot) (t5, t4, w64 ((c : Int) + 1))))) = some (Sum.inl ((slotsTo g (c + 1)).1, (((slotsTo g (c + 1)).2 : Nat) : Int), ((c + 1 : Nat) : Int))) := by
 have h36 := rc36 D.r2.2 D.c2.2
 obtain ⟨l1, l2⟩ := slotsTo_len g c
 rw [p_i_run hN D hc, p_i_run hN D hc, bnd_mk, bnd_mk, w64_nat (by omega), w64_nat (by omega)]
 simp only [slotsTo]
 generalize runN g c false = a
 generalize runN g c true = d
 generalize slotsTo g c = q at l1 l2 ⊢
 by_cases ha : 2 ≤ a <;> by_cases hd : 2 ≤ d
 ·rw [sel_pos (by omega), bnd_mk, sel_pos (by omega), chk_pos (by simp; omega), bnd_mk, sel_pos (by omega), chk_pos (by simp; omega)]
  simp [ha, hd]
 ·rw [sel_pos (by omega), bnd_mk, sel_pos (by omega), chk_pos (by simp; omega), bnd_mk, sel_neg (by omega)]
  simp [ha, hd]
 ·rw [sel_neg (by omega), sel_pos (by omega), bnd_mk, sel_neg (by omega), bnd_mk, sel_pos (by omega), chk_pos (by simp; omega)]
  simp [ha, hd]
 ·rw [sel_neg (by omega), sel_neg (by omega), bnd_mk, sel_neg (by omega), bnd_mk, sel_neg (by omega)]
  simp [ha, hd]
theorem p_i_SlotsOf {N : Nat} (hN : 67108864 < N) (g : Gx.Grid) : i_SlotsOf N g = some (slots g) := by
 unfold i_SlotsOf slots
 rw [p_i_IsGrid hN, bnd_mk, sel_not]
 cases hg : isGrid g with
 | false => rfl
 | true =>
  obtain ⟨R, C, D⟩ := (isGrid_ok hg).dims
  have h36 := rc36 D.r2.2 D.c2.2
  have hlen := D.len
  rw [sel_true, if_pos rfl]
  have := loopN_inv (N := N) (step := i_SlotsOf_L1 N g) (fun i => ((slotsTo g i).1, (((slotsTo g i).2 : Nat) : Int), (i : Int))) (n := g.mCells.length) (b := (slotsTo g g.mCells.length).1) (fun i hi => by
   unfold i_SlotsOf_L1
   simp only
   rw [sel_pos (by omega)]
   exact slot_round hN D (by omega)) (by
   unfold i_SlotsOf_L1
   simp only
   rw [sel_neg (by omega)]) (by omega)
  rw [show (([] : List Gx.Slot), (0 : Int), (0 : Int)) = ((slotsTo g 0).1, (((slotsTo g 0).2 : Nat) : Int), ((0 : Nat) : Int)) from rfl, this, bnd_mk]
theorem p_s_SlotsOf {N : Nat} (hN : 67108864 < N) (g : Gx.Grid) (hl : g.mCells.length ≤ 1048576) : s_SlotsOf N g = some (slots g) := by
 unfold s_SlotsOf slots
 cases hg : isGrid g with
 | false =>
  rw [if_neg (by simp)]
  have : loopN (s_SlotsOf_L1 N g) N ([], 0, 0) = some [] := by
   refine loopN_inv (N := N) (step := s_SlotsOf_L1 N g) (fun _ => ([], 0, 0)) (n := 0) (b := []) (fun i hi => by omega) ?_ (by omega)
   unfold s_SlotsOf_L1
   simp only
   rw [p_s_IsGrid hN, bnd_mk, hg, sel_false, sel_ite]
   split <;> rfl
  rw [this, bnd_mk]
 | true =>
  obtain ⟨R, C, D⟩ := (isGrid_ok hg).dims
  have h36 := rc36 D.r2.2 D.c2.2
  have hlen := D.len
  rw [if_pos rfl]
  have := loopN_inv (N := N) (step := s_SlotsOf_L1 N g) (fun i => ((slotsTo g i).1, (((slotsTo g i).2 : Nat) : Int), (i : Int))) (n := g.mCells.length) (b := (slotsTo g g.mCells.length).1) (fun i hi => by
   unfold s_SlotsOf_L1
   simp only
   rw [sel_pos (by omega), p_s_IsGrid hN, bnd_mk, hg, sel_true]
   simp only [e_run]
   exact slot_round hN D (by omega)) (by
   unfold s_SlotsOf_L1
   simp only
   rw [sel_neg (by omega)]) (by omega)
  rw [show (([] : List Gx.Slot), (0 : Int), (0 : Int)) = ((slotsTo g 0).1, (((slotsTo g 0).2 : Nat) : Int), ((0 : Nat) : Int)) from rfl, this, bnd_mk]
/-- what is known of a slot -/
structure SlotIn (g : Gx.Grid) (R C : Nat) (s : Gx.Slot) (c : Nat) : Prop where
 cell : s.mCell = (c : Int)
 lt : c < R * C
 len : s.mLength = ((runN g c s.mDown : Nat) : Int)
 two : 2 ≤ runN g c s.mDown
theorem slotsTo_in {g : Gx.Grid} {R C : Nat} : ∀ n, n ≤ R * C → ∀ s ∈ (slotsTo g n).1, ∃ c, c < n ∧ SlotIn g R C s c
 | 0, _, s, h => by simp [slotsTo] at h
 | n + 1, hn, s, h => by
  simp only [slotsTo, List.mem_append] at h
  rcases h with (h | h) | h
  ·obtain ⟨c, h1, h2⟩ := slotsTo_in (R := R) (C := C) n (by omega) s h
   exact ⟨c, by omega, h2⟩
  ·split at h
   ·rename_i h2
    simp only [List.mem_cons, List.not_mem_nil, or_false] at h
    subst h
    exact ⟨n, by omega, rfl, by omega, rfl, h2⟩
   ·simp at h
  ·split at h
   ·rename_i h2
    simp only [List.mem_cons, List.not_mem_nil, or_false] at h
    subst h
    exact ⟨n, by omega, rfl, by omega, rfl, h2⟩
   ·simp at h
theorem slotsTo_nodup {g : Gx.Grid} {R C : Nat} : ∀ n, n ≤ R * C → (slotsTo g n).1.Nodup
 | 0, _ => by simp [slotsTo]
 | n + 1, hn => by
  have ih := slotsTo_nodup (g := g) (R := R) (C := C) n (by omega)
  have old := slotsTo_in (g := g) (R := R) (C := C) n (by omega)
  have fresh : ∀ (m l : Int) (d : Bool), (⟨m, d, (n : Int), l⟩ : Gx.Slot) ∉ (slotsTo g n).1 := by
   intro m l d h
   obtain ⟨c, h1, h2⟩ := old _ h
   have := h2.cell
   simp only at this
   omega
  have snoc : ∀ (l : List Gx.Slot) (x : Gx.Slot), l.Nodup → x ∉ l → (l ++ [x]).Nodup := by
   intro l x h1 h2
   rw [List.nodup_append]
   refine ⟨h1, by simp, fun a ha b hb e => ?_⟩
   simp only [List.mem_cons, List.not_mem_nil, or_false] at hb
   subst e; subst hb; exact h2 ha
  simp only [slotsTo]
  by_cases ha : 2 ≤ runN g n false
  ·rw [if_pos ha]
   by_cases hd : 2 ≤ runN g n true
   ·rw [if_pos hd]
    refine snoc _ _ (snoc _ _ ih (fresh _ _ _)) fun h => ?_
    rcases List.mem_append.1 h with h | h
    ·exact fresh _ _ _ h
    ·simp at h
   ·rw [if_neg hd, List.append_nil]
    exact snoc _ _ ih (fresh _ _ _)
  ·rw [if_neg ha, List.append_nil]
   by_cases hd : 2 ≤ runN g n true
   ·rw [if_pos hd]
    exact snoc _ _ ih (fresh _ _ _)
   ·rw [if_neg hd, List.append_nil]
    exact ih
theorem slots_in {g : Gx.Grid} {R C : Nat} (D : Dims g R C) {s : Gx.Slot} (h : s ∈ slots g) : ∃ c, SlotIn g R C s c := by
 unfold slots at h
 split at h
 ·obtain ⟨c, _, h2⟩ := slotsTo_in (g := g) (R := R) (C := C) g.mCells.length (by rw [D.len]; exact Nat.le_refl _) s h
  exact ⟨c, h2⟩
 ·cases h
theorem slots_grid {g : Gx.Grid} {s : Gx.Slot} (h : s ∈ slots g) : isGrid g = true := by
 unfold slots at h
 split at h
 ·assumption
 ·cases h
theorem slots_nodup (g : Gx.Grid) : (slots g).Nodup := by
 unfold slots
 split
 ·rename_i h
  obtain ⟨R, C, D⟩ := (isGrid_ok h).dims
  exact slotsTo_nodup (g := g) (R := R) (C := C) _ (by rw [D.len]; exact Nat.le_refl _)
 ·exact List.nodup_nil
theorem slots_len (g : Gx.Grid) : (slots g).length ≤ 72 := by
 unfold slots
 split
 ·rename_i h
  obtain ⟨R, C, D⟩ := (isGrid_ok h).dims
  have := (slotsTo_len g g.mCells.length).1
  have := rc36 D.r2.2 D.c2.2
  have := D.len
  omega
 ·simp
def cellN (g : Gx.Grid) (s : Gx.Slot) (k : Nat) : Nat := s.mCell.toNat + k * dStep g s.mDown
def cellsL (g : Gx.Grid) (s : Gx.Slot) : List Int := (List.range s.mLength.toNat).map fun k => (cellN g s k : Int)
theorem range_get {n i : Nat} {k : Nat} (h : (List.range n)[i]? = some k) : k = i ∧ i < n := by
 have h1 := (List.getElem?_eq_some_iff.1 h)
 obtain ⟨h2, h3⟩ := h1
 rw [List.getElem_range] at h3
 exact ⟨h3.symm, by simpa using h2⟩
theorem SlotIn.bound {g : Gx.Grid} {R C : Nat} (D : Dims g R C) {s : Gx.Slot} {c : Nat} (S : SlotIn g R C s c) {k : Nat} (hk : k < s.mLength.toNat) : cellN g s k < R * C := by
 have h1 : s.mLength.toNat = runN g c s.mDown := by rw [S.len]; rfl
 have h2 : s.mCell.toNat = c := by rw [S.cell]; rfl
 unfold cellN
 rw [h2]
 exact runN_in D S.lt s.mDown (by omega)
theorem slot_cell {g : Gx.Grid} {R C : Nat} (D : Dims g R C) {s : Gx.Slot} {c : Nat} (S : SlotIn g R C s c) {k : Nat} (hk : k < s.mLength.toNat) {st : Int} (hst : st = (dStep g s.mDown : Int)) : w64 (s.mCell + w64 ((k : Int) * st)) = (cellN g s k : Int) := by
 have h := S.bound D hk
 have h36 := rc36 D.r2.2 D.c2.2
 unfold cellN at h ⊢
 have h2 : s.mCell.toNat = c := by rw [S.cell]; rfl
 subst hst
 rw [← Int.natCast_mul, w64_in (n := ((k * dStep g s.mDown : Nat) : Int)) (by omega) (by omega), S.cell, w64_in (by omega) (by omega), Int.toNat_natCast]
 rfl
theorem p_i_cells {N : Nat} (hN : 67108864 < N) {g : Gx.Grid} {R C : Nat} (D : Dims g R C) {s : Gx.Slot} {c : Nat} (S : SlotIn g R C s c) : i_cells N g s = some (cellsL g s) := by
 unfold i_cells
 have e2 : g.mCols.toNat = C := by rw [D.c]; rfl
 have h6 : runN g c s.mDown ≤ 6 := runN_le D c s.mDown
 have et : sel s.mDown (some g.mCols) (some (1 : Int)) = some ((dStep g s.mDown : Nat) : Int) := by
  unfold dStep
  rw [e2]
  cases s.mDown <;> simp [D.c]
 have hl : s.mLength = ((s.mLength.toNat : Nat) : Int) := by rw [S.len]; rfl
 have hl6 : s.mLength.toNat ≤ 6 := by rw [S.len, Int.toNat_natCast]; exact h6
 rw [et, bnd_mk]
 have := loop_map (N := N) (l := List.range s.mLength.toNat) (step := i_cells_L1 N s ((dStep g s.mDown : Nat) : Int)) (fun k => (cellN g s k : Int)) (fi := fun a => a) (fun i k a hk hi ha => by
  obtain ⟨rfl, hk2⟩ := range_get hk
  unfold i_cells_L1
  simp only
  rw [sel_pos (by omega), slot_cell D S hk2 rfl, chk_pos (by simp only [List.length_cons, List.length_nil]; omega)]) (fun a => by
  unfold i_cells_L1
  simp only [List.length_range]
  rw [sel_neg (by omega)]) (by simp; omega) (by simp; omega)
 rw [this, bnd_mk]; rfl
theorem p_i_layout {N : Nat} (hN : 67108864 < N) (g : Gx.Grid) : i_layout N g = some ((slots g).map (cellsL g)) := by
 unfold i_layout
 have h72 := slots_len g
 rw [p_i_SlotsOf hN, bnd_mk]
 have := loop_map (N := N) (l := slots g) (step := i_layout_L1 N (slots g) g) (cellsL g) (fi := fun a => a) (fun i s a hs hi ha => by
  have hm := List.mem_of_getElem? hs
  obtain ⟨R, C, D⟩ := (isGrid_ok (slots_grid hm)).dims
  obtain ⟨c, S⟩ := slots_in D hm
  unfold i_layout_L1
  simp only
  rw [sel_pos (by omega), getI_nat hs, bnd_mk, p_i_cells hN D S, bnd_mk, chk_pos (by simp only [List.length_cons, List.length_nil]; omega)]) (fun a => by
  unfold i_layout_L1
  simp only
  rw [sel_neg (by omega)]) (by omega) (by omega)
 rw [this, bnd_mk]
theorem cellsL_len (g : Gx.Grid) (s : Gx.Slot) : (cellsL g s).length = s.mLength.toNat := by simp [cellsL]
theorem SlotIn.small {g : Gx.Grid} {R C : Nat} (D : Dims g R C) {s : Gx.Slot} {c : Nat} (S : SlotIn g R C s c) : s.mLength.toNat ≤ 6 := by
 rw [S.len, Int.toNat_natCast]; exact runN_le D c s.mDown
theorem p_s_CellsOf_loop {N : Nat} (hN : 67108864 < N) {g : Gx.Grid} {R C : Nat} (D : Dims g R C) {s : Gx.Slot} {c : Nat} (S : SlotIn g R C s c) (a : List Int) (ha : a.length ≤ 1048576) : loopN (s_CellsOf_L2 N s g) N (a, 0) = some (a ++ cellsL g s) := by
 have h6 := S.small D
 have hl : s.mLength = ((s.mLength.toNat : Nat) : Int) := by rw [S.len]; rfl
 have e2 : g.mCols.toNat = C := by rw [D.c]; rfl
 have key := loop_fold (N := N) (step := s_CellsOf_L2 N s g) (fun i a => (a, (i : Int))) (List.range s.mLength.toNat) (fun (a : List Int) (k : Nat) => a ++ [(cellN g s k : Int)]) (fun a => a) (fun i b => b.length ≤ 1048576 + i) (a := a) ha (fun b hb => by
  unfold s_CellsOf_L2
  simp only [List.length_range]
  rw [sel_neg (by omega)]) (fun i b k hb hk hi => by
  obtain ⟨rfl, hk2⟩ := range_get hk
  refine ⟨?_, by simp; omega⟩
  unfold s_CellsOf_L2
  simp only
  rw [sel_pos (by omega), w64_nat (by omega)]
  cases hd : s.mDown with
  | true =>
   have e : w64 (s.mCell + w64 ((k : Int) * g.mCols)) = (cellN g s k : Int) := slot_cell D S hk2 (by unfold dStep; rw [hd, if_pos rfl, e2, D.c])
   rw [sel_true, e, chk_pos (by simp only [List.length_cons, List.length_nil]; omega)]
  | false =>
   have e : w64 (s.mCell + (k : Int)) = (cellN g s k : Int) := by
    have := slot_cell D S hk2 (st := 1) (by unfold dStep; rw [hd, if_neg (by simp)]; rfl)
    rw [Int.mul_one, w64_in (n := (k : Int)) (by omega) (by omega)] at this
    exact this
   rw [sel_false, e, chk_pos (by simp only [List.length_cons, List.length_nil]; omega)]) (by simp; omega)
 rw [show (a, (0 : Int)) = (a, ((0 : Nat) : Int)) from rfl, key, foldl_snoc]
 rfl
theorem slot_beq (a b : Gx.Slot) : (a.mNumber == b.mNumber && (a.mDown == b.mDown && (a.mCell == b.mCell && (a.mLength == b.mLength && true)))) = decide (a = b) := by
 rw [Bool.eq_iff_iff]
 simp only [Bool.and_eq_true, beq_iff_eq, and_true, decide_eq_true_eq]
 constructor
 ·rintro ⟨h1, h2, h3, h4⟩; cases a; cases b; simp_all
 ·rintro rfl; simp
theorem p_s_CellsOf {N : Nat} (hN : 67108864 < N) {g : Gx.Grid} {R C : Nat} (D : Dims g R C) (hlg : g.mCells.length ≤ 1048576) {s : Gx.Slot} (hs : s ∈ slots g) : s_CellsOf N g s = some (cellsL g s) := by
 obtain ⟨c, S⟩ := slots_in D hs
 have h72 := slots_len g
 have h6 := S.small D
 unfold s_CellsOf
 rw [p_s_SlotsOf hN g hlg, bnd_mk]
 -- before the slot: nothing; behind it: its cells
 have nd := slots_nodup g
 have key := loopN_list (N := N) (step := s_CellsOf_L1 N (slots g) s g) (fun i a => (a, (i : Int))) (slots g) (fun r (a : List Int) => if s ∈ r then cellsL g s else a) (fun i a => if s ∈ (slots g).drop i then a = [] else a = cellsL g s) (a := []) (by rw [List.drop_zero, if_pos hs])
  (fun a ha => by
   unfold s_CellsOf_L1
   simp only
   rw [sel_neg (by omega), if_neg (by simp)])
  (fun i a x r ha hx hr hi => by
   left
   have hd : (slots g).drop i = x :: r := by rw [← hr]; rw [List.drop_eq_getElem_cons hi]; rw [List.getElem?_eq_getElem hi] at hx; cases hx; rfl
   have ndr : (x :: r).Nodup := by rw [← hd]; exact nd.sublist (List.drop_sublist _ _)
   rw [hd] at ha
   unfold s_CellsOf_L1
   simp only
   rw [sel_pos (by omega), getI_nat hx, bnd_mk, slot_beq, sel_not, w64_nat (by omega)]
   by_cases e : x = s
   ·subst e
    rw [if_pos (by simp)] at ha
    subst ha
    have hn : x ∉ r := (List.nodup_cons.1 ndr).1
    rw [sel_pos rfl, p_s_CellsOf_loop hN D S [] (by simp), bnd_mk, List.nil_append]
    refine ⟨_, rfl, by rw [hr, if_neg hn], by rw [if_pos (by simp), if_neg hn]⟩
   ·rw [sel_neg e, bnd_mk]
    refine ⟨_, rfl, ?_, ?_⟩
    ·rw [hr]
     simp only [List.mem_cons, Ne.symm e, false_or] at ha
     exact ha
    ·have : (s ∈ x :: r) = (s ∈ r) := by simp only [List.mem_cons, Ne.symm e, false_or]
     simp only [this]) (by omega)
 rw [show (([] : List Int), (0 : Int)) = ([], ((0 : Nat) : Int)) from rfl, key, if_pos hs, bnd_mk]
theorem byte_get {f : List UInt8} {n : Nat} (h : n < f.length) : f[n]? = some (f.getD n 0) := by
 rw [List.getD_eq_getElem?_getD, List.getElem?_eq_getElem h]; rfl
theorem sub_one {f : List UInt8} {n : Nat} (h : n < f.length) : sub f (n : Int) ((n + 1 : Nat) : Int) = [f.getD n 0] := by
 unfold sub
 have e : (((n + 1 : Nat) : Int) - (n : Int)).toNat = 1 := by omega
 have hx := byte_get h
 obtain ⟨h1, h2⟩ := List.getElem?_eq_some_iff.1 hx
 rw [e, Int.toNat_natCast, List.drop_eq_getElem_cons h1, h2]
 rfl
/-- the fill with no letter yet -/
def emptyFill (g : Gx.Grid) : List UInt8 := if isGrid g = true then g.mCells.map (fun c => if c = 46 then 63 else c) else []
theorem p_i_EmptyFill {N : Nat} (hN : 67108864 < N) (g : Gx.Grid) : i_EmptyFill N g = some (emptyFill g) := by
 unfold i_EmptyFill emptyFill
 rw [p_i_IsGrid hN, bnd_mk, sel_not]
 cases hg : isGrid g with
 | false => rfl
 | true =>
  have h36 := (isGrid_ok hg).small
  rw [sel_true, if_pos rfl]
  unfold g_strings_ReplaceAll
  rw [chk_pos ⟨by omega, rfl, rfl⟩, bnd_mk, replaceAll_one (by decide)]
theorem p_s_EmptyFill {N : Nat} (hN : 67108864 < N) (g : Gx.Grid) : s_EmptyFill N g = some (emptyFill g) := by
 unfold s_EmptyFill emptyFill
 cases hg : isGrid g with
 | false =>
  have : loopN (s_EmptyFill_L1 N g) N ([], 0) = some [] := by
   refine loopN_inv (N := N) (step := s_EmptyFill_L1 N g) (fun _ => ([], 0)) (n := 0) (b := []) (fun i hi => by omega) ?_ (by omega)
   unfold s_EmptyFill_L1
   simp only
   rw [p_s_IsGrid hN, bnd_mk, hg, sel_false, sel_ite]
   split <;> rfl
  rw [this, bnd_mk]
  rfl
 | true =>
  have h36 := (isGrid_ok hg).small
  have hc := (isGrid_ok hg).cells
  rw [loop_map (l := g.mCells) (fun c => if c = 46 then 63 else c) (fi := id) (fun i x a hx hi ha => by
   have hx' := hc x (List.mem_of_getElem? hx)
   unfold s_EmptyFill_L1
   simp only
   rw [sel_pos (by omega), p_s_IsGrid hN, bnd_mk, hg, sel_true, chk_pos ⟨by omega, by omega⟩, byteI_nat hx, eq35]
   rcases hx' with rfl | rfl
   ·rw [if_neg (by decide)]
    simp only [beq_self_eq_true, sel_true]
    rw [chk_pos (by simp only [List.length_singleton]; omega)]
   ·rw [if_pos rfl]
    have : ((46 : UInt8) == 35) = false := by decide
    rw [this, sel_false, chk_pos (by simp only [List.length_singleton]; omega)]) (fun a => by
   unfold s_EmptyFill_L1
   simp only
   rw [sel_neg (by omega)]; rfl) (by omega) (by omega), bnd_mk]
  rfl
/-- the first, or out -/
def firstV {α β : Type} (f : Nat → α → Option β) : List α → Nat → β → β
 | [], _, b => b
 | x :: r, i, b => match f i x with | some y => y | none => firstV f r (i + 1) b
theorem loop_first {α β : Type} {l : List α} {step : Int → Option (Sum Int β)} (f : Nat → α → Option β) {b : β} {N : Nat}
  (hs : ∀ i x, l[i]? = some x → i < l.length → step (i : Int) = some (match f i x with | some y => .inr y | none => .inl (w64 ((i : Int) + 1)))) (he : step (l.length : Int) = some (.inr b))
  (hl : l.length ≤ 4611686018427387904) (hN : l.length < N) : loopN step N 0 = some (firstV f l 0 b) :=
 loopN_list (N := N) (step := step) (fun i (a : Nat) => (i : Int)) l (fun r a => firstV f r a b) (fun i a => a = i) (a := 0) rfl
  (fun a ha => by rw [he]; rfl)
  (fun i a x r ha hx hr hi => by
   subst ha
   rw [hs a x hx hi]
   simp only [firstV]
   cases f a x with
   | some y => right; rfl
   | none => left; rw [w64_nat (by omega)]; exact ⟨a + 1, rfl, rfl, rfl⟩) hN
structure CpIss (x : Gx.Issue) : Prop where
 clues : x.mPuzzle.mClues.length ≤ 1048576
 play : ∀ c ∈ x.mPuzzle.mClues, c.mPlay.length ≤ 1048576
 seals : x.mPuzzle.mSeals.length ≤ 1048576
 cells : x.mPuzzle.mGrid.mCells.length ≤ 1048576
theorem cp_clue {c : Gx.Clue} : c.mPlay.length ≤ c.size := by
 unfold Gx.Clue.size
 omega
theorem cp_iss {x : Gx.Issue} (hs : x.size ≤ 1048576) : CpIss x := by
 unfold Gx.Issue.size Gx.Puzzle.size Gx.Grid.size at hs
 refine ⟨by omega, fun c hc => ?_, by omega, by omega⟩
 have h2 : c.size ≤ (x.mPuzzle.mClues.map (fun e : Gx.Clue => e.size)).sum := mem_sum (fun e : Gx.Clue => e.size) hc
 have h3 := @cp_clue c
 omega
theorem cp_issues {h : Gx.House} (hs : h.size ≤ 1048576) : h.mIssues.length ≤ 1048576 ∧ ∀ x ∈ h.mIssues, CpIss x := by
 unfold Gx.House.size at hs
 refine ⟨by omega, fun x hx => cp_iss ?_⟩
 have h2 : x.size ≤ (h.mIssues.map (fun e : Gx.Issue => e.size)).sum := mem_sum (fun e : Gx.Issue => e.size) hx
 omega
theorem p_i_copyClues {N : Nat} (hN : 67108864 < N) (l : List Gx.Clue) (hl : l.length ≤ 1048576) (hp : ∀ c ∈ l, c.mPlay.length ≤ 1048576) : i_copyClues N l = some l := by
 unfold i_copyClues
 rw [loop_map (N := N) (l := l) (fun x => x) (fi := id) (fun i x a hx hi ha => by
  have hc := hp x (List.mem_of_getElem? hx)
  unfold i_copyClues_L1 i_copyClue g_slices_Clone_Simpl_Step_impl_Step
  simp only
  rw [sel_pos (by omega), getI_nat hx, bnd_mk, chk_pos (by omega), bnd_mk, bnd_mk, chk_pos (by simp; omega)]) (fun a => by unfold i_copyClues_L1; rw [sel_neg (by simp)]; rfl) (by omega) (by omega)]
 simp
theorem p_s_l21Clues {N : Nat} (hN : 67108864 < N) (l : List Gx.Clue) (hl : l.length ≤ 1048576) (hp : ∀ c ∈ l, c.mPlay.length ≤ 1048576) : s_l21Clues N l = some l := by
 unfold s_l21Clues
 rw [loop_map (N := N) (l := l) (fun x => x) (fi := id) (fun i x a hx hi ha => by
  have hc := hp x (List.mem_of_getElem? hx)
  unfold s_l21Clues_L1 s_l18Copy
  simp only
  rw [sel_pos (by omega), getI_nat hx, bnd_mk, chk_pos (by simp; omega), bnd_mk, chk_pos (by simp; omega)]) (fun a => by unfold s_l21Clues_L1; rw [sel_neg (by simp)]; rfl) (by omega) (by omega)]
 simp
theorem p_i_copyIssue {N : Nat} (hN : 67108864 < N) {x : Gx.Issue} (hx : CpIss x) : i_copyIssue N x = some x := by
 unfold i_copyIssue i_copyPuzzle g_slices_Clone_Sint_int
 rw [p_i_copyClues hN _ hx.clues hx.play, bnd_mk, chk_pos (by have := hx.seals; omega)]
 rfl
theorem p_s_l30Copy {N : Nat} (hN : 67108864 < N) {x : Gx.Issue} (hx : CpIss x) : s_l30Copy N x = some x := by
 unfold s_l30Copy s_l21Copy
 rw [p_s_l21Clues hN _ hx.clues hx.play, bnd_mk, chk_pos (by have := hx.seals; simp; omega)]
 rfl
theorem first_cut {α β : Type} (f : Nat → α → Option β) (z : β) : ∀ (l : List α) (i : Nat), cutb (some (firstV (fun i x => (f i x).map Cut.rt) l i (Cut.nx ()))) (fun _ => some z) = some (firstV f l i z)
 | [], i => rfl
 | x :: r, i => by
  simp only [firstV]
  cases f i x with
  | some y => rfl
  | none => exact first_cut f z r (i + 1)
def nbr (C n i j : Nat) : Prop := (0 < i % C ∧ j + 1 = i) ∨ (i % C + 1 < C ∧ j = i + 1) ∨ (C ≤ i ∧ j + C = i) ∨ (i + C < n ∧ j = i + C)
inductive Conn (C n : Nat) (w : Nat → Bool) (a : Nat) : Nat → Prop
 | refl : Conn C n w a a
 | step {b c : Nat} : Conn C n w a b → nbr C n b c → w c = true → Conn C n w a c
theorem Conn.trans {C n : Nat} {w : Nat → Bool} {a b c : Nat} (h1 : Conn C n w a b) (h2 : Conn C n w b c) : Conn C n w a c := by
 induction h2 with
 | refl => exact h1
 | step _ hn hw ih => exact .step ih hn hw
theorem Conn.cons {C n : Nat} {w : Nat → Bool} {a b c : Nat} (hn : nbr C n a b) (hw : w b = true) (h2 : Conn C n w b c) : Conn C n w a c := Conn.trans (.step .refl hn hw) h2
theorem small_cases {C : Nat} (h1 : 2 ≤ C) (h2 : C ≤ 6) : C = 2 ∨ C = 3 ∨ C = 4 ∨ C = 5 ∨ C = 6 := by omega
theorem nbr_symm {C R i j : Nat} (h1 : 2 ≤ C) (h2 : C ≤ 6) (hi : i < R * C) (h : nbr C (R * C) i j) : nbr C (R * C) j i ∧ j < R * C := by
 unfold nbr at h ⊢
 rcases small_cases h1 h2 with rfl | rfl | rfl | rfl | rfl <;> omega
/-- the cell that a row and a column name -/
def tgt (R C : Nat) (r c : Int) (t : Nat) : Prop := 0 ≤ r ∧ r < (R : Int) ∧ 0 ≤ c ∧ c < (C : Int) ∧ (t : Int) = r * (C : Int) + c
theorem tgt_lt {R C : Nat} {r c : Int} {t : Nat} (h1 : 2 ≤ C) (h2 : C ≤ 6) (h : tgt R C r c t) : t < R * C := by
 unfold tgt at h
 rcases small_cases h1 h2 with rfl | rfl | rfl | rfl | rfl <;> omega
theorem tgt_nbr {R C : Nat} {r c : Int} {i t : Nat} (h1 : 2 ≤ C) (h2 : C ≤ 6) (hi : tgt R C r c i) (h : tgt R C (r - 1) c t ∨ tgt R C (r + 1) c t ∨ tgt R C r (c - 1) t ∨ tgt R C r (c + 1) t) : nbr C (R * C) i t := by
 unfold tgt at h hi; unfold nbr
 rcases small_cases h1 h2 with rfl | rfl | rfl | rfl | rfl <;> omega
theorem nbr_tgt {R C : Nat} {r c : Int} {i t : Nat} (h1 : 2 ≤ C) (h2 : C ≤ 6) (hi : tgt R C r c i) (h : nbr C (R * C) i t) : tgt R C (r - 1) c t ∨ tgt R C (r + 1) c t ∨ tgt R C r (c - 1) t ∨ tgt R C r (c + 1) t := by
 unfold tgt at hi ⊢; unfold nbr at h
 rcases small_cases h1 h2 with rfl | rfl | rfl | rfl | rfl <;> omega
theorem tgt_one {R C : Nat} {r c : Int} {i t : Nat} (hi : tgt R C r c i) (h : tgt R C r c t) : t = i := by
 unfold tgt at hi h; omega
abbrev on (M : List Bool) (d : Nat) : Prop := M.getD d false = true
theorem on_set {M : List Bool} {i d : Nat} (hi : i < M.length) : on (M.set i true) d ↔ d = i ∨ on M d := by
 unfold on
 rw [List.getD_eq_getElem?_getD, List.getD_eq_getElem?_getD, List.getElem?_set]
 by_cases h : i = d
 ·subst h; simp [hi]
 ·have h' : ¬ d = i := fun e => h e.symm
  simp [h, h']
theorem on_ext {M M' : List Bool} (hl : M.length = M'.length) (h : ∀ d, on M d ↔ on M' d) : M = M' := by
 refine List.ext_getElem hl fun i h1 h2 => ?_
 have := h i
 unfold on at this
 rw [List.getD_eq_getElem?_getD, List.getD_eq_getElem?_getD, List.getElem?_eq_getElem h1, List.getElem?_eq_getElem h2] at this
 simp only [Option.getD_some] at this
 cases ha : M[i] <;> cases hb : M'[i] <;> simp_all
def offs : List Bool → Nat
 | [] => 0
 | b :: r => (if b = true then 0 else 1) + offs r
theorem offs_set : ∀ {M : List Bool} {i : Nat}, M[i]? = some false → offs (M.set i true) + 1 = offs M
 | [], i, h => by simp at h
 | b :: r, 0, h => by simp at h; subst h; simp [offs]; omega
 | b :: r, i + 1, h => by
  have := offs_set (M := r) (i := i) (by simpa using h)
  simp only [List.set_cons_succ, offs]; omega
theorem offs_mono : ∀ {M M' : List Bool}, M'.length = M.length → (∀ d, on M d → on M' d) → offs M' ≤ offs M
 | [], [], _, _ => Nat.le_refl _
 | [], _ :: _, h, _ => by simp at h
 | _ :: _, [], h, _ => by simp at h
 | a :: r, b :: s, hl, h => by
  have ih := offs_mono (M := r) (M' := s) (by simpa using hl) (fun d hd => by have := h (d + 1) (by simpa [on] using hd); simpa [on] using this)
  have h0 := h 0
  simp only [offs]
  cases a <;> cases b <;> simp [on] at h0 <;> simp <;> omega
theorem offs_le : ∀ (M : List Bool), offs M ≤ M.length
 | [] => Nat.le_refl _
 | b :: r => by have := offs_le r; simp only [offs, List.length_cons]; split <;> omega
/-- what a visit does -/
structure Vis (C n : Nat) (w : Nat → Bool) (M M' : List Bool) (T : Nat → Prop) : Prop where
 len : M'.length = n
 mono : ∀ d, on M d → on M' d
 new : ∀ d, on M' d → ¬ on M d → d < n ∧ w d = true ∧ ∃ t, T t ∧ w t = true ∧ Conn C n w t d
 tg : ∀ t, T t → w t = true → on M' t
 cl : ∀ d, on M' d → ¬ on M d → ∀ e, nbr C n d e → w e = true → on M' e
theorem getI_on {M : List Bool} {i : Nat} (h : i < M.length) : getI M (i : Int) = some (M.getD i false) := by
 rw [List.getD_eq_getElem?_getD, List.getElem?_eq_getElem h]
 exact getI_nat (List.getElem?_eq_getElem h)
theorem p_i_at (N : Nat) (a b : Int) : i_at N a b = some (decide (0 ≤ a) && decide (a < b)) := by
 unfold i_at
 rw [show decide (a ≥ 0) = decide (0 ≤ a) from rfl]
 cases decide (0 ≤ a) <;> rfl
theorem visit_ok {N : Nat} {g : Gx.Grid} {R C : Nat} (D : Dims g R C) : ∀ (k : Nat) (M : List Bool) (r c : Int), -1 ≤ r → r ≤ R → -1 ≤ c → c ≤ C → M.length = R * C → offs M < k →
  ∃ M', i_PartsOf_1_R N k r c g M = some M' ∧ Vis C (R * C) (dot g) M M' (tgt R C r c)
 | 0, M, r, c, _, _, _, _, _, h => by omega
 | k + 1, M, r, c, hr1, hr2, hc1, hc2, hlen, hoff => by
  have hC1 := D.c2.1; have hC2 := D.c2.2; have hR2 := D.r2.2
  have hrc := rc36 hR2 hC2
  have none_ : ∀ {T : Nat → Prop}, (∀ t, T t → dot g t = true → on M t) → Vis C (R * C) (dot g) M M T := fun hT => ⟨hlen, fun _ h => h, fun d h hn => absurd h hn, hT, fun d h hn => absurd h hn⟩
  simp only [i_PartsOf_1_R]
  unfold i_PartsOf_1_B
  rw [p_i_at, bnd_mk, D.r, sel_not]
  by_cases hr : 0 ≤ r ∧ r < (R : Int)
  ·rw [decide_eq_true hr.1, decide_eq_true hr.2, Bool.true_and, sel_true, p_i_at, bnd_mk, D.c, sel_not]
   by_cases hc : 0 ≤ c ∧ c < (C : Int)
   ·rw [decide_eq_true hc.1, decide_eq_true hc.2, Bool.true_and, sel_true]
    obtain ⟨i, hi⟩ : ∃ i : Nat, tgt R C r c i := ⟨(r * (C : Int) + c).toNat, hr.1, hr.2, hc.1, hc.2, by
     have : 0 ≤ r * (C : Int) := Int.mul_nonneg hr.1 (by omega)
     omega⟩
    have hin := tgt_lt hC1 hC2 hi
    have he : w64 (w64 (r * (C : Int)) + c) = (i : Int) := by
     have h5 := hi.2.2.2.2
     rw [w64_in (n := r * (C : Int)) (by omega) (by omega), w64_in (by omega) (by omega)]; omega
    rw [he, getI_on (by omega), bnd_mk]
    cases hm : M.getD i false with
    | true => exact ⟨M, rfl, none_ fun t ht _ => by rw [tgt_one hi ht]; exact hm⟩
    | false =>
     rw [sel_false, chk_pos (by have := D.len; omega)]
     have hb : ((byteI g.mCells (i : Int)) != 46) = !dot g i := by rw [bne, dot_byte (by have := D.len; omega)]
     rw [hb, sel_not]
     cases hw : dot g i with
     | false => exact ⟨M, rfl, none_ fun t ht hwt => by rw [tgt_one hi ht, hw] at hwt; cases hwt⟩
     | true =>
      rw [sel_true, bnd_mk]
      have hmi : M[i]? = some false := by
       rw [List.getD_eq_getElem?_getD, List.getElem?_eq_getElem (by omega)] at hm
       rw [List.getElem?_eq_getElem (by omega)]; simpa using hm
      have hnoton : ¬ on M i := by unfold on; rw [hm]; simp
      have h0 : offs (M.set i true) < k := by have := offs_set hmi; omega
      have hl0 : (M.set i true).length = R * C := by simpa using hlen
      have ei : Int.toNat (i : Int) = i := by omega
      rw [ei, w64_in (n := r - 1) (by omega) (by omega), w64_in (n := r + 1) (by omega) (by omega), w64_in (n := c - 1) (by omega) (by omega), w64_in (n := c + 1) (by omega) (by omega)]
      obtain ⟨M2, e2, V2⟩ := visit_ok (N := N) D k (M.set i true) (r - 1) c (by omega) (by omega) hc1 hc2 hl0 h0
      have o2 := offs_mono (by rw [V2.len, hl0]) V2.mono
      obtain ⟨M3, e3, V3⟩ := visit_ok (N := N) D k M2 (r + 1) c (by omega) (by omega) hc1 hc2 V2.len (by omega)
      have o3 := offs_mono (by rw [V3.len, V2.len]) V3.mono
      obtain ⟨M4, e4, V4⟩ := visit_ok (N := N) D k M3 r (c - 1) hr1 hr2 (by omega) (by omega) V3.len (by omega)
      have o4 := offs_mono (by rw [V4.len, V3.len]) V4.mono
      obtain ⟨M5, e5, V5⟩ := visit_ok (N := N) D k M4 r (c + 1) hr1 hr2 (by omega) (by omega) V4.len (by omega)
      rw [e2, bnd_mk, e3, bnd_mk, e4, bnd_mk, e5, bnd_mk]
      have m1 : ∀ d, on M d → on (M.set i true) d := fun d h => (on_set (by omega)).2 (.inr h)
      have oi : on (M.set i true) i := (on_set (by omega)).2 (.inl rfl)
      have m5 : ∀ d, on M4 d → on M5 d := V5.mono
      have m4 : ∀ d, on M3 d → on M5 d := fun d h => m5 d (V4.mono d h)
      have m3 : ∀ d, on M2 d → on M5 d := fun d h => m4 d (V3.mono d h)
      have m2 : ∀ d, on (M.set i true) d → on M5 d := fun d h => m3 d (V2.mono d h)
      have road : ∀ {t d : Nat}, (tgt R C (r - 1) c t ∨ tgt R C (r + 1) c t ∨ tgt R C r (c - 1) t ∨ tgt R C r (c + 1) t) → dot g t = true → Conn C (R * C) (dot g) t d → Conn C (R * C) (dot g) i d :=
       fun ht hwt hcn => Conn.cons (tgt_nbr hC1 hC2 hi ht) hwt hcn
      refine ⟨M5, rfl, V5.len, fun d h => m2 d (m1 d h), fun d h hn => ?_, fun t ht _ => by rw [tgt_one hi ht]; exact m2 i oi, fun d h hn e hne hwe => ?_⟩
      ·by_cases q4 : on M4 d
       ·by_cases q3 : on M3 d
        ·by_cases q2 : on M2 d
         ·by_cases q1 : on (M.set i true) d
          ·rcases (on_set (by omega)).1 q1 with rfl | q
           ·exact ⟨hin, hw, d, hi, hw, .refl⟩
           ·exact absurd q hn
          ·obtain ⟨a1, a2, t, a3, a4, a5⟩ := V2.new d q2 q1
           exact ⟨a1, a2, i, hi, hw, road (.inl a3) a4 a5⟩
         ·obtain ⟨a1, a2, t, a3, a4, a5⟩ := V3.new d q3 q2
          exact ⟨a1, a2, i, hi, hw, road (.inr (.inl a3)) a4 a5⟩
        ·obtain ⟨a1, a2, t, a3, a4, a5⟩ := V4.new d q4 q3
         exact ⟨a1, a2, i, hi, hw, road (.inr (.inr (.inl a3))) a4 a5⟩
       ·obtain ⟨a1, a2, t, a3, a4, a5⟩ := V5.new d h q4
        exact ⟨a1, a2, i, hi, hw, road (.inr (.inr (.inr a3))) a4 a5⟩
      ·by_cases q4 : on M4 d
       ·by_cases q3 : on M3 d
        ·by_cases q2 : on M2 d
         ·by_cases q1 : on (M.set i true) d
          ·rcases (on_set (by omega)).1 q1 with rfl | q
           ·rcases nbr_tgt hC1 hC2 hi hne with h | h | h | h
            ·exact m3 e (V2.tg e h hwe)
            ·exact m4 e (V3.tg e h hwe)
            ·exact m5 e (V4.tg e h hwe)
            ·exact V5.tg e h hwe
           ·exact absurd q hn
          ·exact m3 e (V2.cl d q2 q1 e hne hwe)
         ·exact m4 e (V3.cl d q3 q2 e hne hwe)
        ·exact m5 e (V4.cl d q4 q3 e hne hwe)
       ·exact V5.cl d h q4 e hne hwe
   ·have : (decide (0 ≤ c) && decide (c < (C : Int))) = false := by simp; omega
    rw [this]
    exact ⟨M, rfl, none_ fun t ht _ => absurd ⟨ht.2.2.1, ht.2.2.2.1⟩ hc⟩
  ·have : (decide (0 ≤ r) && decide (r < (R : Int))) = false := by simp; omega
   rw [this]
   exact ⟨M, rfl, none_ fun t ht _ => absurd ⟨ht.1, ht.2.1⟩ hr⟩
def nearB (C n : Nat) (M : List Bool) (i : Nat) : Bool :=
 (decide (0 < i % C) && M.getD (i - 1) false) || ((decide (i % C + 1 < C) && M.getD (i + 1) false) || ((decide (C ≤ i) && M.getD (i - C) false) || (decide (i + C < n) && M.getD (i + C) false)))
theorem nearB_of {C n : Nat} {M : List Bool} {i j : Nat} (h : nbr C n i j) (hj : on M j) : nearB C n M i = true := by
 unfold nearB
 unfold on at hj
 rcases h with ⟨h1, h2⟩ | ⟨h1, h2⟩ | ⟨h1, h2⟩ | ⟨h1, h2⟩
 ·rw [show i - 1 = j by omega, hj]; simp [h1]
 ·subst h2; rw [hj]; simp [h1]
 ·rw [show i - C = j by omega, hj]; simp [h1]
 ·subst h2; rw [hj]; simp [h1]
theorem nearB_to {C n : Nat} {M : List Bool} {i : Nat} (hC : 0 < C) (h : nearB C n M i = true) : ∃ j, nbr C n i j ∧ on M j := by
 unfold nearB at h
 simp only [Bool.or_eq_true, Bool.and_eq_true, decide_eq_true_eq] at h
 have hm := Nat.mod_le i C
 rcases h with ⟨h1, h2⟩ | ⟨h1, h2⟩ | ⟨h1, h2⟩ | ⟨h1, h2⟩
 ·exact ⟨i - 1, .inl ⟨h1, by omega⟩, h2⟩
 ·exact ⟨i + 1, .inr (.inl ⟨h1, rfl⟩), h2⟩
 ·exact ⟨i - C, .inr (.inr (.inl ⟨h1, by omega⟩)), h2⟩
 ·exact ⟨i + C, .inr (.inr (.inr ⟨h1, rfl⟩)), h2⟩
theorem tmod_nat (i C : Nat) : Int.tmod (i : Int) (C : Int) = ((i % C : Nat) : Int) := by
 rw [Int.tmod_eq_emod_of_nonneg (by omega)]; omega
theorem tdiv_nat (i C : Nat) : Int.tdiv (i : Int) (C : Int) = ((i / C : Nat) : Int) := by
 rw [Int.tdiv_eq_ediv_of_nonneg (by omega)]; omega
theorem near_part {M : List Bool} {p q : Prop} [Decidable p] [Decidable q] {x : Int} {j : Nat} {E : Option Bool} {b : Bool} (hp : p ↔ q) (hx : q → x = (j : Int) ∧ j < M.length) (hE : E = some b) :
  sel (decide p) (bnd (getI M x) fun y => sel y (some true) E) E = some ((decide q && M.getD j false) || b) := by
 subst hE
 by_cases h : q
 ·rw [decide_eq_true (hp.2 h), decide_eq_true h, sel_true, (hx h).1, getI_on (hx h).2, bnd_mk]
  cases M.getD j false <;> simp
 ·rw [decide_eq_false (fun hh => h (hp.1 hh)), decide_eq_false h, sel_false]; simp
theorem near_last {M : List Bool} {p q : Prop} [Decidable p] [Decidable q] {x : Int} {j : Nat} (hp : p ↔ q) (hx : q → x = (j : Int) ∧ j < M.length) :
  sel (decide p) (bnd (getI M x) fun y => some y) (some false) = some (decide q && M.getD j false) := by
 by_cases h : q
 ·rw [decide_eq_true (hp.2 h), decide_eq_true h, sel_true, (hx h).1, getI_on (hx h).2, bnd_mk]; simp
 ·rw [decide_eq_false (fun hh => h (hp.1 hh)), decide_eq_false h, sel_false]; simp
/-- one cell of a pass -/
theorem reach_step {N : Nat} {g : Gx.Grid} {R C : Nat} (D : Dims g R C) {M : List Bool} (hl : M.length = R * C) {i : Nat} (hi : i < R * C) (again : Bool) :
  s_l10Reach_L2 N g (M, again, (i : Int)) = some (.inl (if (!M.getD i false && (dot g i && nearB C (R * C) M i)) = true then (M.set i true, true, ((i + 1 : Nat) : Int)) else (M, again, ((i + 1 : Nat) : Int)))) := by
 have hC1 := D.c2.1; have hC2 := D.c2.2
 have hrc := rc36 D.r2.2 hC2
 have hlen := D.len
 unfold s_l10Reach_L2
 simp only
 rw [sel_pos (by omega), getI_on (by omega), bnd_mk, w64_nat (by omega)]
 cases hm : M.getD i false with
 | true => rfl
 | false =>
  have hb : ((byteI g.mCells (i : Int)) != 46) = !dot g i := by rw [bne, dot_byte (by omega)]
  rw [sel_false, chk_pos (by omega), hb, sel_not]
  cases hw : dot g i with
  | false => rfl
  | true =>
   rw [sel_true, chk_pos (by rw [D.c]; omega), D.c, tmod_nat]
   have b4 := near_last (M := M) (p := w64 ((i : Int) + (C : Int)) < (M.length : Int)) (q := i + C < R * C) (x := w64 ((i : Int) + (C : Int))) (j := i + C) (by rw [w64_in (by omega) (by omega)]; omega) (fun h => ⟨by rw [w64_in (by omega) (by omega)]; omega, by omega⟩)
   have b3 := near_part (M := M) (p := (i : Int) ≥ (C : Int)) (q := C ≤ i) (x := w64 ((i : Int) - (C : Int))) (j := i - C) (by omega) (fun h => ⟨by rw [w64_in (by omega) (by omega)]; omega, by omega⟩) b4
   have hm1 : i % C < C := Nat.mod_lt _ (by omega)
   have hnx : i % C + 1 < C → i + 1 < R * C := by
    intro h
    rcases small_cases hC1 hC2 with rfl | rfl | rfl | rfl | rfl <;> omega
   have b2 := near_part (M := M) (p := w64 (((i % C : Nat) : Int) + 1) < (C : Int)) (q := i % C + 1 < C) (x := w64 ((i : Int) + 1)) (j := i + 1) (by rw [w64_in (by omega) (by omega)]; omega) (fun h => ⟨by rw [w64_in (by omega) (by omega)]; omega, by have := hnx h; omega⟩) b3
   have hmle := Nat.mod_le i C
   have b1 := near_part (M := M) (p := ((i % C : Nat) : Int) > 0) (q := 0 < i % C) (x := w64 ((i : Int) - 1)) (j := i - 1) (by omega) (fun h => ⟨by rw [w64_in (by omega) (by omega)]; omega, by omega⟩) b2
   have en : nearB C (R * C) M i = (decide (0 < i % C) && M.getD (i - 1) false || (decide (i % C + 1 < C) && M.getD (i + 1) false || (decide (C ≤ i) && M.getD (i - C) false || decide (i + C < R * C) && M.getD (i + C) false))) := rfl
   rw [w64_nat (i := i) (by omega)] at b2
   rw [← en, w64_nat (i := i) (by omega)] at b1
   have b1' := b1
   refine Eq.trans (congrArg (fun o => bnd o _) b1') ?_
   rw [bnd_mk]
   cases nearB C (R * C) M i with
   | false => rfl
   | true =>
    rw [sel_true, bnd_mk, show Int.toNat (i : Int) = i by omega]; rfl
structure Pass (C n : Nat) (w : Nat → Bool) (a i : Nat) (M : List Bool) (again : Bool) (M' : List Bool) (again' : Bool) : Prop where
 len : M'.length = n
 mono : ∀ d, on M d → on M' d
 conn : ∀ d, on M' d → d < n ∧ Conn C n w a d
 stop : again' = false → M' = M ∧ again = false ∧ ∀ j, i ≤ j → j < n → ¬ on M j → w j = true → nearB C n M j = false
 go : again' = true → again = true ∨ offs M' < offs M
theorem pass_ok {N : Nat} {g : Gx.Grid} {R C : Nat} (D : Dims g R C) {a : Nat} : ∀ (m i : Nat) (M : List Bool) (again : Bool) (F : Nat), i + m = R * C → m < F → M.length = R * C → (∀ d, on M d → d < R * C ∧ Conn C (R * C) (dot g) a d) →
  ∃ M' again', loopN (s_l10Reach_L2 N g) F (M, again, (i : Int)) = some (.inl (M', again')) ∧ Pass C (R * C) (dot g) a i M again M' again'
 | 0, i, M, again, F, hi, hF, hl, hc => by
  obtain ⟨F, rfl⟩ : ∃ k, F = k + 1 := ⟨F - 1, by omega⟩
  have e : s_l10Reach_L2 N g (M, again, (i : Int)) = some (.inr (.inl (M, again))) := by unfold s_l10Reach_L2; rw [sel_neg (by simp only; omega)]
  refine ⟨M, again, by simp only [loopN, e], hl, fun _ h => h, hc, fun h => ⟨rfl, h, fun j h1 h2 => by omega⟩, fun h => .inl h⟩
 | m + 1, i, M, again, F, hi, hF, hl, hc => by
  obtain ⟨F, rfl⟩ : ∃ k, F = k + 1 := ⟨F - 1, by omega⟩
  have hC1 := D.c2.1; have hC2 := D.c2.2
  have hst := reach_step (N := N) D hl (i := i) (by omega) again
  simp only [loopN, hst]
  by_cases h : (!M.getD i false && (dot g i && nearB C (R * C) M i)) = true
  ·rw [if_pos h]
   simp only [Bool.and_eq_true, Bool.not_eq_true'] at h
   obtain ⟨h1, h2, h3⟩ := h
   obtain ⟨j, hj1, hj2⟩ := nearB_to (by omega) h3
   have hcj := hc j hj2
   have hii := nbr_symm hC1 hC2 (i := i) (by omega) hj1
   have hc' : ∀ d, on (M.set i true) d → d < R * C ∧ Conn C (R * C) (dot g) a d := fun d hd => by
    rcases (on_set (by omega)).1 hd with rfl | hd
    ·exact ⟨by omega, .step hcj.2 hii.1 h2⟩
    ·exact hc d hd
   obtain ⟨M', again', e, V⟩ := pass_ok (N := N) D m (i + 1) (M.set i true) true F (by omega) (by omega) (by simpa using hl) hc'
   have hmi : M[i]? = some false := by
    rw [List.getD_eq_getElem?_getD, List.getElem?_eq_getElem (by omega)] at h1
    rw [List.getElem?_eq_getElem (by omega)]; simpa using h1
   have o1 := offs_set hmi
   have o2 := offs_mono (by rw [V.len]; simpa using hl.symm) V.mono
   exact ⟨M', again', e, V.len, fun d hd => V.mono d ((on_set (by omega)).2 (.inr hd)), V.conn, fun hs => absurd (V.stop hs).2.1 (by simp), fun _ => .inr (by omega)⟩
  ·rw [if_neg h]
   obtain ⟨M', again', e, V⟩ := pass_ok (N := N) D m (i + 1) M again F (by omega) (by omega) hl hc
   refine ⟨M', again', e, V.len, V.mono, V.conn, fun hs => ?_, V.go⟩
   obtain ⟨q1, q2, q3⟩ := V.stop hs
   refine ⟨q1, q2, fun j h1 h2 hn hw => ?_⟩
   by_cases hij : j = i
   ·subst hij
    have hm : M.getD j false = false := by unfold on at hn; simpa using hn
    rw [hm, hw] at h
    simpa using h
   ·exact q3 j (by omega) h2 hn hw
structure Reach (C n : Nat) (w : Nat → Bool) (a : Nat) (M S : List Bool) : Prop where
 len : S.length = n
 mono : ∀ d, on M d → on S d
 conn : ∀ d, on S d → d < n ∧ Conn C n w a d
 cl : ∀ j, j < n → ¬ on S j → w j = true → nearB C n S j = false
theorem reach_loop {N : Nat} {g : Gx.Grid} {R C : Nat} (D : Dims g R C) (hN : 67108864 < N) {a : Nat} : ∀ (k : Nat) (M : List Bool), offs M < k → M.length = R * C → (∀ d, on M d → d < R * C ∧ Conn C (R * C) (dot g) a d) →
  ∃ S, loopN (s_l10Reach_L1 N g) (k + 1) (M, true) = some S ∧ Reach C (R * C) (dot g) a M S
 | 0, M, h, _, _ => by omega
 | k + 1, M, h, hl, hc => by
  have hrc := rc36 D.r2.2 D.c2.2
  obtain ⟨M', again', e, V⟩ := pass_ok (N := N) D (R * C) 0 M false N (by omega) (by omega) hl hc
  have e1 : s_l10Reach_L1 N g (M, true) = some (.inl (M', again')) := by unfold s_l10Reach_L1; exact e
  cases again' with
  | true =>
   have ho := (V.go rfl).resolve_left (by simp)
   obtain ⟨S, e2, W⟩ := reach_loop (N := N) D hN k M' (by omega) V.len V.conn
   refine ⟨S, ?_, W.len, fun d hd => W.mono d (V.mono d hd), W.conn, W.cl⟩
   simp only [loopN, e1] at e2 ⊢
   exact e2
  | false =>
   obtain ⟨q1, _, q3⟩ := V.stop rfl
   refine ⟨M', ?_, V.len, V.mono, V.conn, fun j hj hn hw => ?_⟩
   ·have e3 : s_l10Reach_L1 N g (M', false) = some (.inr M') := rfl
    simp only [loopN, e1, e3]
   ·rw [q1] at hn ⊢; exact q3 j (by omega) hj hn hw
theorem p_s_l10Reach {N : Nat} (hN : 67108864 < N) {g : Gx.Grid} {R C : Nat} (D : Dims g R C) {a : Nat} (ha : a < R * C) : ∃ S, s_l10Reach N g (List.replicate (R * C) false) (a : Int) = some S ∧ S.length = R * C ∧ on S a ∧ (∀ d, on S d → d < R * C ∧ Conn C (R * C) (dot g) a d) ∧
  ∀ d e, on S d → nbr C (R * C) d e → dot g e = true → on S e := by
 have hrc := rc36 D.r2.2 D.c2.2
 obtain ⟨K, rfl⟩ : ∃ k, N = k + 1 := ⟨N - 1, by omega⟩
 have hl : ((List.replicate (R * C) false).set a true).length = R * C := by simp
 have hoff := offs_le ((List.replicate (R * C) false).set a true)
 have h0 : ∀ d, on ((List.replicate (R * C) false).set a true) d → d = a := fun d hd => by
  rcases (on_set (by simpa using ha)).1 hd with rfl | hd
  ·rfl
  ·unfold on at hd
   rw [List.getD_eq_getElem?_getD, List.getElem?_replicate] at hd
   split at hd <;> simp at hd
 obtain ⟨S, e, V⟩ := reach_loop (N := K + 1) D hN (a := a) K _ (by omega) hl (fun d hd => by have := h0 d hd; subst this; exact ⟨ha, .refl⟩)
 refine ⟨S, ?_, V.len, V.mono a ((on_set (by simpa using ha)).2 (.inl rfl)), V.conn, fun d f hd hn hw => ?_⟩
 ·unfold s_l10Reach
  rw [getI_on (by simpa using ha), bnd_mk, show Int.toNat (a : Int) = a by omega, e]
  rfl
 ·have hd' := (V.conn d hd).1
  have hs := nbr_symm D.c2.1 D.c2.2 hd' hn
  refine Classical.byContradiction fun hc => ?_
  have := V.cl f hs.2 hc hw
  rw [nearB_of hs.1 hd] at this
  cases this
end Lw
end Go.Proofs
