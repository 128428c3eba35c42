/- plain laws -/
import Derived.Test.YtniibgdokfnomaaGreatDoorAvPhIsQuiet
namespace Go.Proofs
open Go Go.Av
set_option maxRecDepth 100000
set_option maxHeartbeats 40000000
set_option linter.unusedVariables false
set_option linter.unusedSimpArgs false
namespace Lw
theorem p_s_l1In (N : Nat) (n a b : Int) : s_l1In N n a b = some (decide (a ≤ n ∧ n ≤ b)) := by
 unfold s_l1In
 rw [sel_ite]
 split <;> simp <;> omega
theorem p_i_InRange (N : Nat) (n a b : Int) : i_InRange N n a b = some (decide (a ≤ n ∧ n ≤ b)) := by
 unfold i_InRange
 rw [sel_ite]
 split <;> simp <;> omega
/-- a lower-case letter -/
def isLet (c : UInt8) : Bool := decide (97 ≤ c.toNat ∧ c.toNat ≤ 122)
theorem p_i_isLetter (N : Nat) (c : UInt8) : i_isLetter N (c.toNat : Int) = some (isLet c) := by
 unfold i_isLetter isLet
 rw [sel_ite]
 split
 ·rw [Option.some.injEq, decide_eq_decide]; omega
 ·rw [Option.some.injEq, eq_comm, decide_eq_false_iff_not]; omega
def okCell (c : UInt8) : Bool := c == 35 || c == 46
def isGrid (g : Gx.Grid) : Bool := decide (2 ≤ g.mRows ∧ g.mRows ≤ 6) && decide (2 ≤ g.mCols ∧ g.mCols ≤ 6) && decide ((g.mCells.length : Int) = g.mRows * g.mCols) && g.mCells.all okCell
theorem grid_small {g : Gx.Grid} (h1 : 2 ≤ g.mRows ∧ g.mRows ≤ 6) (h2 : 2 ≤ g.mCols ∧ g.mCols ≤ 6) : 0 ≤ g.mRows * g.mCols ∧ g.mRows * g.mCols ≤ 36 :=
 ⟨Int.mul_nonneg (by omega) (by omega), Int.le_trans (Int.mul_le_mul h1.2 h2.2 (by omega) (by omega)) (by omega)⟩
theorem cell_ne (c : UInt8) : ((c.toNat : Int) != 35) = (c != 35) := by simp only [bne]; rw [show (35 : Int) = ((35 : Nat) : Int) from rfl, u8_eq (by omega)]; rfl
theorem cell_ne' (c : UInt8) : ((c.toNat : Int) != 46) = (c != 46) := by simp only [bne]; rw [show (46 : Int) = ((46 : Nat) : Int) from rfl, u8_eq (by omega)]; rfl
theorem cells_loop {N : Nat} (g : Gx.Grid) (h : g.mCells.length ≤ 36) (hN : 67108864 < N) {step : Int → Option (Sum Int (Cut Unit Bool))}
  (hs : ∀ p, step p = sel (decide (p < (g.mCells.length : Int))) (chk (0 ≤ p ∧ p < (g.mCells.length : Int)) <| sel ((byteI g.mCells p) != 35) (chk (0 ≤ p ∧ p < (g.mCells.length : Int)) <| sel ((byteI g.mCells p) != 46) (some (.inr (.rt false))) (some (.inl (w64 (p + 1))))) (some (.inl (w64 (p + 1))))) (some (.inr (.nx ())))) :
  cutb (loopN step N 0) (fun _ => some true) = some (g.mCells.all okCell) := by
 rw [loop_all (l := g.mCells) okCell (b := false) (fun i x hx hi => by
  rw [hs, sel_pos (by omega), chk_pos ⟨by omega, by omega⟩, chk_pos ⟨by omega, by omega⟩, byteI_nat hx, cell_ne, cell_ne']
  unfold okCell
  by_cases h1 : x = 35
  ·subst h1; rfl
  ·by_cases h2 : x = 46
   ·subst h2; rfl
   ·have e1 : (x != 35) = true := by simpa using h1
    have e2 : (x != 46) = true := by simpa using h2
    rw [e1, e2]; simp [h1, h2]) (by rw [hs, sel_neg (by omega)]) (by omega) (by omega)]
 split <;> simp_all
theorem p_s_IsGrid {N : Nat} (hN : 67108864 < N) (g : Gx.Grid) : s_IsGrid N g = some (isGrid g) := by
 unfold s_IsGrid isGrid
 rw [p_s_l1In, p_s_l1In]
 simp only [bnd_mk, sel_not, sel_ite]
 split
 ·rename_i h1
  split
  ·rename_i h2
   have hm := grid_small h1 h2
   rw [w64_in (by omega) (by omega)]
   by_cases h3 : (g.mCells.length : Int) = g.mRows * g.mCols
   ·have e : ((g.mCells.length : Int) != g.mRows * g.mCols) = false := by simpa using h3
    rw [e, sel_false, cells_loop g (by omega) hN (step := s_IsGrid_L1 N g) (fun p => rfl)]
    simp [h1, h2, h3]
   ·have e : ((g.mCells.length : Int) != g.mRows * g.mCols) = true := by simpa using h3
    rw [e]; simp [h3]
  ·rename_i h2; simp [h2]
 ·rename_i h1; simp [h1]
theorem p_i_IsGrid {N : Nat} (hN : 67108864 < N) (g : Gx.Grid) : i_IsGrid N g = some (isGrid g) := by
 unfold i_IsGrid isGrid
 rw [p_i_InRange, p_i_InRange]
 simp only [bnd_mk, sel_not, sel_ite]
 split
 ·rename_i h1
  split
  ·rename_i h2
   have hm := grid_small h1 h2
   rw [w64_in (by omega) (by omega)]
   by_cases h3 : (g.mCells.length : Int) = g.mRows * g.mCols
   ·have e : ((g.mCells.length : Int) != g.mRows * g.mCols) = false := by simpa using h3
    rw [e, sel_false, cells_loop g (by omega) hN (step := i_IsGrid_L1 N g) (fun p => rfl)]
    simp [h1, h2, h3]
   ·have e : ((g.mCells.length : Int) != g.mRows * g.mCols) = true := by simpa using h3
    rw [e]; simp [h3]
  ·rename_i h2; simp [h2]
 ·rename_i h1; simp [h1]
structure GridOk (g : Gx.Grid) : Prop where
 rows : 2 ≤ g.mRows ∧ g.mRows ≤ 6
 cols : 2 ≤ g.mCols ∧ g.mCols ≤ 6
 len : (g.mCells.length : Int) = g.mRows * g.mCols
 cells : ∀ c ∈ g.mCells, c = 35 ∨ c = 46
theorem isGrid_ok {g : Gx.Grid} (h : isGrid g = true) : GridOk g := by
 unfold isGrid at h
 simp only [Bool.and_eq_true, decide_eq_true_eq, List.all_eq_true] at h
 refine ⟨h.1.1.1, h.1.1.2, h.1.2, fun c hc => ?_⟩
 have := h.2 c hc
 simpa [okCell] using this
theorem GridOk.small {g : Gx.Grid} (h : GridOk g) : g.mCells.length ≤ 36 := by have := grid_small h.rows h.cols; have := h.len; omega
def okFill (a b : UInt8) : Bool := if a = 35 then b == 35 else b == 63 || isLet b
def isFill (g : Gx.Grid) (f : List UInt8) : Bool := isGrid g && decide (f.length = g.mCells.length) && allI (fun i b => okFill (g.mCells.getD i 0) b) f 0
theorem fillBranch (a b : UInt8) (ha : a = 35 ∨ a = 46) : okFill a b = if a = 35 then b == 35 else (b == 63 || isLet b) := rfl
theorem letQ (b : UInt8) : (sel ((b.toNat : Int) == 63) (some true) (sel (decide ((b.toNat : Int) ≥ 97)) (some (decide ((b.toNat : Int) ≤ 122))) (some false))) = some (b == 63 || isLet b) := by
 rw [show (63 : Int) = ((63 : Nat) : Int) from rfl, u8_eq (by omega)]
 by_cases h : b = 63
 ·subst h; rfl
 ·have e : (b == UInt8.ofNat 63) = false := by simpa using h
  have e' : (b == 63) = false := by simpa using h
  rw [e, e', sel_false, sel_ite, Bool.false_or]
  unfold isLet
  split
  ·rw [Option.some.injEq, decide_eq_decide]; omega
  ·rw [Option.some.injEq, eq_comm, decide_eq_false_iff_not]; omega
theorem ne35 (b : UInt8) : ((b.toNat : Int) != 35) = (b != 35) := cell_ne b
theorem eq35 (b : UInt8) : ((b.toNat : Int) == 35) = (b == 35) := by rw [show (35 : Int) = ((35 : Nat) : Int) from rfl, u8_eq (by omega)]; rfl
theorem eq46 (b : UInt8) : ((b.toNat : Int) == 46) = (b == 46) := by rw [show (46 : Int) = ((46 : Nat) : Int) from rfl, u8_eq (by omega)]; rfl
theorem eq63 (b : UInt8) : ((b.toNat : Int) == 63) = (b == 63) := by rw [show (63 : Int) = ((63 : Nat) : Int) from rfl, u8_eq (by omega)]; rfl
theorem ne63 (b : UInt8) : ((b.toNat : Int) != 63) = (b != 63) := by simp only [bne, eq63]
theorem p_s_IsFill {N : Nat} (hN : 67108864 < N) (g : Gx.Grid) (f : List UInt8) : s_IsFill N g f = some (isFill g f) := by
 unfold s_IsFill isFill
 rw [p_s_IsGrid hN, bnd_mk, sel_not]
 cases hg : isGrid g with
 | false => rfl
 | true =>
  have G := isGrid_ok hg
  have hs := G.small
  rw [sel_true, Bool.true_and]
  by_cases hl : f.length = g.mCells.length
  ·have e : ((f.length : Int) != (g.mCells.length : Int)) = false := by simp [hl]
   rw [e, sel_false, decide_eq_true hl, Bool.true_and, loop_allI (l := f) (γ := Unit) (fun i b => okFill (g.mCells.getD i 0) b) (b := false) (fun i b hb hi => by
    have ha : g.mCells[i]? = some g.mCells[i] := List.getElem?_eq_getElem (by omega)
    have hd : g.mCells.getD i 0 = g.mCells[i] := by rw [List.getD_eq_getElem?_getD, ha]; rfl
    have hab := G.cells _ (List.getElem_mem (n := i) (by omega))
    generalize g.mCells[i] = a at ha hd hab
    unfold s_IsFill_L1
    rw [sel_pos (by omega)]
    have q1 : 0 ≤ (i : Int) ∧ (i : Int) < (f.length : Int) := ⟨by omega, by omega⟩
    have q2 : 0 ≤ (i : Int) ∧ (i : Int) < (g.mCells.length : Int) := ⟨by omega, by omega⟩
    simp only [chk_pos q1, chk_pos q2]
    rw [byteI_nat hb, byteI_nat ha, letQ, bnd_mk, eq35, ne35, eq46, hd, fillBranch a b hab]
    rcases hab with rfl | rfl
    ·by_cases h : b = 35
     ·subst h; rfl
     ·have e1 : (b != 35) = true := by simpa using h
      have e2 : (b == 35) = false := by simpa using h
      rw [e1]; simp [e2]
    ·cases hq : (b == 63 || isLet b) <;> simp) (by unfold s_IsFill_L1; rw [sel_neg (by omega)]) (by omega) (by omega)]
   split <;> simp_all
  ·have e : ((f.length : Int) != (g.mCells.length : Int)) = true := by simp; omega
   rw [e, decide_eq_false hl]; rfl
theorem p_i_IsFill {N : Nat} (hN : 67108864 < N) (g : Gx.Grid) (f : List UInt8) : i_IsFill N g f = some (isFill g f) := by
 unfold i_IsFill isFill
 rw [p_i_IsGrid hN, bnd_mk, sel_not]
 cases hg : isGrid g with
 | false => rfl
 | true =>
  have G := isGrid_ok hg
  have hs := G.small
  rw [sel_true, Bool.true_and]
  by_cases hl : f.length = g.mCells.length
  ·have e : ((f.length : Int) != (g.mCells.length : Int)) = false := by simp [hl]
   rw [e, sel_false, decide_eq_true hl, Bool.true_and, loop_allI (l := f) (γ := Unit) (fun i b => okFill (g.mCells.getD i 0) b) (b := false) (fun i b hb hi => by
    have ha : g.mCells[i]? = some g.mCells[i] := List.getElem?_eq_getElem (by omega)
    have hd : g.mCells.getD i 0 = g.mCells[i] := by rw [List.getD_eq_getElem?_getD, ha]; rfl
    have hab := G.cells _ (List.getElem_mem (n := i) (by omega))
    generalize g.mCells[i] = a at ha hd hab
    unfold i_IsFill_L1
    rw [sel_pos (by omega)]
    have q1 : 0 ≤ (i : Int) ∧ (i : Int) < (f.length : Int) := ⟨by omega, by omega⟩
    have q2 : 0 ≤ (i : Int) ∧ (i : Int) < (g.mCells.length : Int) := ⟨by omega, by omega⟩
    simp only [chk_pos q1, chk_pos q2]
    rw [byteI_nat hb, byteI_nat ha, p_i_isLetter, bnd_mk, eq35, eq35, ne35, ne63, hd, fillBranch a b hab]
    rcases hab with rfl | rfl
    ·by_cases h : b = 35
     ·subst h; rfl
     ·have e2 : (b == 35) = false := by simpa using h
      rw [e2]; simp
    ·by_cases h : b = 35
     ·subst h; rfl
     ·have e1 : (b != 35) = true := by simpa using h
      have e2 : (b == 35) = false := by simpa using h
      rw [e1, e2]
      by_cases h3 : b = 63
      ·subst h3; rfl
      ·have e3 : (b != 63) = true := by simpa using h3
       have e4 : (b == 63) = false := by simpa using h3
       rw [e3, e4]
       cases isLet b <;> simp) (by unfold i_IsFill_L1; rw [sel_neg (by omega)]) (by omega) (by omega)]
   split <;> simp_all
  ·have e : ((f.length : Int) != (g.mCells.length : Int)) = true := by simp; omega
   rw [e, decide_eq_false hl]; rfl
/-- what a fill is told by -/
theorem isFill_ok {g : Gx.Grid} {f : List UInt8} (h : isFill g f = true) : GridOk g ∧ f.length = g.mCells.length := by
 unfold isFill at h
 simp only [Bool.and_eq_true, decide_eq_true_eq] at h
 exact ⟨isGrid_ok h.1.1, h.1.2⟩
structure Dims (g : Gx.Grid) (R C : Nat) : Prop where
 r : g.mRows = (R : Int)
 c : g.mCols = (C : Int)
 r2 : 2 ≤ R ∧ R ≤ 6
 c2 : 2 ≤ C ∧ C ≤ 6
 len : g.mCells.length = R * C
theorem GridOk.dims {g : Gx.Grid} (h : GridOk g) : ∃ R C, Dims g R C := by
 refine ⟨g.mRows.toNat, g.mCols.toNat, ?_, ?_, ?_, ?_, ?_⟩ <;> have := h.rows <;> have := h.cols <;> have hl := h.len
 ·omega
 ·omega
 ·omega
 ·omega
 ·have e : ((g.mRows.toNat * g.mCols.toNat : Nat) : Int) = g.mRows * g.mCols := by
   rw [Int.natCast_mul, Int.toNat_of_nonneg (by omega), Int.toNat_of_nonneg (by omega)]
  omega
theorem rc36 {R C : Nat} (h1 : R ≤ 6) (h2 : C ≤ 6) : R * C ≤ 36 := Nat.mul_le_mul h1 h2
theorem tw_spec (p : Nat → Bool) : ∀ K, ∃ m, m = ((List.range K).takeWhile p).length ∧ m ≤ K ∧ (∀ i, i < m → p i = true) ∧ (m < K → p m = false)
 | 0 => ⟨0, rfl, Nat.le_refl _, by simp, by simp⟩
 | K + 1 => by
  obtain ⟨m, e, h1, h2, h3⟩ := tw_spec p K
  rw [List.range_succ]
  by_cases hm : m < K
  ·refine ⟨m, ?_, by omega, h2, fun _ => h3 hm⟩
   have hlt : ((List.range K).takeWhile p).length < (List.range K).length := by rw [← e, List.length_range]; exact hm
   rw [List.takeWhile_append, if_neg (by omega), ← e]
  ·have hK : m = K := by omega
   have hall : ((List.range K).takeWhile p).length = (List.range K).length := by rw [← e, List.length_range, hK]
   rw [List.takeWhile_append, if_pos hall]
   cases hp : p K with
   | true =>
    refine ⟨K + 1, by simp [hp], Nat.le_refl _, fun i hi => ?_, by omega⟩
    by_cases h : i = K
    ·rw [h, hp]
    ·exact h2 i (by omega)
   | false => exact ⟨K, by simp [hp], by omega, fun i hi => h2 i (by omega), fun _ => hp⟩
def dot (g : Gx.Grid) (k : Nat) : Bool := g.mCells.getD k 0 == 46
def dStep (g : Gx.Grid) (down : Bool) : Nat := if down = true then g.mCols.toNat else 1
def dPlace (g : Gx.Grid) (c : Nat) (down : Bool) : Nat := if down = true then c / g.mCols.toNat else c % g.mCols.toNat
def dSide (g : Gx.Grid) (down : Bool) : Nat := if down = true then g.mRows.toNat else g.mCols.toNat
def runN (g : Gx.Grid) (c : Nat) (down : Bool) : Nat :=
 if dot g c = true then
  if 0 < dPlace g c down ∧ dot g (c - dStep g down) = true then 0
  else ((List.range (dSide g down - dPlace g c down)).takeWhile fun k => dot g (c + k * dStep g down)).length
 else 0
theorem dot_byte {g : Gx.Grid} {k : Nat} (h : k < g.mCells.length) : ((byteI g.mCells (k : Int)) == 46) = dot g k := by
 have hx : g.mCells[k]? = some g.mCells[k] := List.getElem?_eq_getElem h
 rw [byteI_nat hx, eq46, dot, List.getD_eq_getElem?_getD, hx]; rfl
theorem in_grid {R C c k : Nat} (down : Bool) (hC : 0 < C) (hc : c < R * C) (h : (if down = true then c / C else c % C) + k < (if down = true then R else C)) : c + k * (if down = true then C else 1) < R * C := by
 cases down with
 | true =>
  simp only [if_true] at h ⊢
  have h1 := Nat.div_add_mod c C
  have h2 := Nat.mod_lt c hC
  have h3 : (c / C + k + 1) * C ≤ R * C := Nat.mul_le_mul_right _ (by omega)
  rw [Nat.succ_mul, Nat.add_mul, Nat.mul_comm (c / C)] at h3
  omega
 | false =>
  simp only [Bool.false_eq_true, if_false] at h ⊢
  have h1 := Nat.div_add_mod c C
  have h4 : c / C < R := by rw [Nat.div_lt_iff_lt_mul hC]; exact hc
  have h3 : (c / C + 1) * C ≤ R * C := Nat.mul_le_mul_right _ (by omega)
  rw [Nat.succ_mul, Nat.mul_comm (c / C)] at h3
  omega
theorem runN_le {g : Gx.Grid} {R C : Nat} (D : Dims g R C) (c : Nat) (down : Bool) : runN g c down ≤ 6 := by
 have e1 : g.mRows.toNat = R := by rw [D.r]; rfl
 have e2 : g.mCols.toNat = C := by rw [D.c]; rfl
 have := D.r2; have := D.c2
 unfold runN
 split
 ·split
  ·omega
  ·obtain ⟨m, e, h1, _⟩ := tw_spec (fun k => dot g (c + k * dStep g down)) (dSide g down - dPlace g c down)
   rw [← e]
   have : dSide g down ≤ 6 := by unfold dSide; split <;> omega
   omega
 ·omega
/-- a run's cells lie in the grid -/
theorem runN_in {g : Gx.Grid} {R C : Nat} (D : Dims g R C) {c : Nat} (hc : c < R * C) (down : Bool) {k : Nat} (hk : k < runN g c down) : c + k * dStep g down < R * C := by
 have e1 : g.mRows.toNat = R := by rw [D.r]; rfl
 have e2 : g.mCols.toNat = C := by rw [D.c]; rfl
 unfold runN at hk
 split at hk
 ·split at hk
  ·omega
  ·obtain ⟨m, e, h1, _⟩ := tw_spec (fun k => dot g (c + k * dStep g down)) (dSide g down - dPlace g c down)
   rw [← e] at hk
   have := in_grid (R := R) (C := C) (c := c) (k := k) down (by have := D.c2; omega) hc (by
    unfold dSide dPlace at h1
    rw [e1, e2] at h1
    have := D.c2
    cases down <;> simp only [if_true, Bool.false_eq_true, if_false] at h1 ⊢ <;> omega)
   unfold dStep
   rw [e2]
   exact this
 ·omega
theorem p_i_run {N : Nat} (hN : 67108864 < N) {g : Gx.Grid} {R C : Nat} (D : Dims g R C) {c : Nat} (hc : c < R * C) (down : Bool) : i_run N g (c : Int) down = some ((runN g c down : Nat) : Int) := by
 have e1 : g.mRows.toNat = R := by rw [D.r]; rfl
 have e2 : g.mCols.toNat = C := by rw [D.c]; rfl
 have h36 := rc36 D.r2.2 D.c2.2
 have hlen := D.len
 have hc0 : ((C : Int) ≠ 0) := by have := D.c2; omega
 unfold i_run
 rw [D.c, chk_pos hc0]
 have et : (sel down (chk ((C : Int) ≠ 0) <| some ((C : Int), w64 (Int.tdiv (c : Int) (C : Int)), g.mRows)) (some ((1 : Int), Int.tmod (c : Int) (C : Int), (C : Int)))) =
   some (((dStep g down : Nat) : Int), ((dPlace g c down : Nat) : Int), ((dSide g down : Nat) : Int)) := by
  unfold dStep dPlace dSide
  rw [e1, e2]
  cases down with
  | true =>
   rw [sel_true, chk_pos hc0, if_pos rfl, if_pos rfl, if_pos rfl, D.r]
   have : Int.tdiv (c : Int) (C : Int) = ((c / C : Nat) : Int) := by rw [Int.tdiv_eq_ediv_of_nonneg (by omega)]; rfl
   have h2 := Nat.div_le_self c C
   rw [this]
   generalize c / C = q at h2
   rw [w64_in (by omega) (by omega)]
  | false =>
   rw [sel_false, if_neg (by simp), if_neg (by simp), if_neg (by simp)]
   have : Int.tmod (c : Int) (C : Int) = ((c % C : Nat) : Int) := by rw [Int.tmod_eq_emod_of_nonneg (by omega)]; rfl
   rw [this]; rfl
 rw [et, bnd_mk, chk_pos ⟨by omega, by omega⟩]
 have hb : ((byteI g.mCells (c : Int)) != 46) = !(dot g c) := by simp only [bne]; rw [dot_byte (by omega)]
 rw [hb, sel_not]
 unfold runN
 cases hd : dot g c with
 | false => rfl
 | true =>
  rw [sel_true, if_pos rfl]
  have hpl : dPlace g c down ≤ c := by
   unfold dPlace; split
   ·exact Nat.div_le_self _ _
   ·exact Nat.mod_le _ _
  have hside : dSide g down ≤ 6 := by unfold dSide; have := D.r2; have := D.c2; split <;> omega
  have hstep : dStep g down ≤ 6 := by unfold dStep; have := D.r2; have := D.c2; split <;> omega
  have hback : 0 < dPlace g c down → dStep g down ≤ c := by
   intro h
   unfold dPlace at h; unfold dStep
   cases down with
   | true =>
    simp only [if_true] at h ⊢
    have := Nat.div_add_mod c g.mCols.toNat
    have h3 : 1 * g.mCols.toNat ≤ (c / g.mCols.toNat) * g.mCols.toNat := Nat.mul_le_mul_right _ h
    rw [Nat.mul_comm (c / _)] at h3
    omega
   | false =>
    simp only [Bool.false_eq_true, if_false] at h ⊢
    have := Nat.mod_le c g.mCols.toNat
    omega
  have loop : bnd (α := Int) (loopN (i_run_L1 N (((dStep g down : Nat) : Int), ((dPlace g c down : Nat) : Int), ((dSide g down : Nat) : Int)) (c : Int) g) N 0) (fun t3 => some t3) =
    some ((((List.range (dSide g down - dPlace g c down)).takeWhile fun k => dot g (c + k * dStep g down)).length : Nat) : Int) := by
   obtain ⟨m, e, h1, h2, h3⟩ := tw_spec (fun k => dot g (c + k * dStep g down)) (dSide g down - dPlace g c down)
   rw [← e]
   have rdx : ∀ k, dPlace g c down + k < dSide g down → c + k * dStep g down < R * C := by
    intro k hk
    have := in_grid (R := R) (C := C) (c := c) (k := k) down (by have := D.c2; omega) hc (by
     unfold dSide dPlace at hk
     rw [e1, e2] at hk
     exact hk)
    unfold dStep
    rw [e2]; exact this
   have key := loopN_inv (N := N) (step := i_run_L1 N (((dStep g down : Nat) : Int), ((dPlace g c down : Nat) : Int), ((dSide g down : Nat) : Int)) (c : Int) g) (fun i => (i : Int)) (n := m) (b := (m : Int)) (fun i hi => by
    have hin := rdx i (by omega)
    have hm6 : i * dStep g down ≤ 6 * 6 := Nat.mul_le_mul (by omega) hstep
    unfold i_run_L1
    simp only
    rw [w64_in (n := ((dPlace g c down : Nat) : Int) + (i : Int)) (by omega) (by omega), sel_pos (by omega)]
    have ew : w64 ((c : Int) + w64 ((i : Int) * ((dStep g down : Nat) : Int))) = ((c + i * dStep g down : Nat) : Int) := by
     rw [← Int.natCast_mul, w64_in (n := ((i * dStep g down : Nat) : Int)) (by omega) (by omega), w64_in (by omega) (by omega)]; rfl
    rw [ew, chk_pos ⟨by omega, by omega⟩, dot_byte (by omega), h2 i hi, sel_true, w64_nat (by omega)]) (by
    unfold i_run_L1
    simp only
    rw [w64_in (n := ((dPlace g c down : Nat) : Int) + (m : Int)) (by omega) (by omega)]
    by_cases hm : m < dSide g down - dPlace g c down
    ·have hin := rdx m (by omega)
     have hm6 : m * dStep g down ≤ 6 * 6 := Nat.mul_le_mul (by omega) hstep
     rw [sel_pos (by omega)]
     have ew : w64 ((c : Int) + w64 ((m : Int) * ((dStep g down : Nat) : Int))) = ((c + m * dStep g down : Nat) : Int) := by
      rw [← Int.natCast_mul, w64_in (n := ((m * dStep g down : Nat) : Int)) (by omega) (by omega), w64_in (by omega) (by omega)]; rfl
     rw [ew, chk_pos ⟨by omega, by omega⟩, dot_byte (by omega), h3 hm, sel_false]
    ·rw [sel_neg (by omega)]) (by omega)
   rw [show (0 : Int) = ((0 : Nat) : Int) from rfl, key]; rfl
  simp only
  by_cases hp : 0 < dPlace g c down
  ·have hb2 := hback hp
   rw [sel_pos (by omega)]
   have ew : w64 ((c : Int) - ((dStep g down : Nat) : Int)) = ((c - dStep g down : Nat) : Int) := by rw [w64_in (by omega) (by omega)]; omega
   rw [ew, chk_pos ⟨by omega, by omega⟩, dot_byte (by omega)]
   cases h4 : dot g (c - dStep g down) with
   | true => rw [sel_true, cutb_rt, if_pos ⟨hp, rfl⟩]; rfl
   | false => rw [sel_false, cutb_nx, if_neg (by simp), loop]
  ·rw [sel_neg (by omega), cutb_nx, if_neg (by omega), loop]
theorem e_run (N : Nat) (g : Gx.Grid) (c : Int) (d : Bool) : s_l8From N g c d = i_run N g c d := rfl
def slotsTo (g : Gx.Grid) : Nat → List Gx.Slot × Nat
 | 0 => ([], 0)
 | c + 1 =>
  let n := if 2 ≤ runN g c false ∨ 2 ≤ runN g c true then (slotsTo g c).2 + 1 else (slotsTo g c).2
  ((slotsTo g c).1 ++ (if 2 ≤ runN g c false then [(⟨(n : Int), false, (c : Int), (runN g c false : Nat)⟩ : Gx.Slot)] else []) ++ (if 2 ≤ runN g c true then [(⟨(n : Int), true, (c : Int), (runN g c true : Nat)⟩ : Gx.Slot)] else []), n)
def slots (g : Gx.Grid) : List Gx.Slot := if isGrid g = true then (slotsTo g g.mCells.length).1 else []
theorem slotsTo_len (g : Gx.Grid) : ∀ c, (slotsTo g c).1.length ≤ 2 * c ∧ (slotsTo g c).2 ≤ c
 | 0 => ⟨Nat.le_refl _, Nat.le_refl _⟩
 | c + 1 => by
  obtain ⟨h1, h2⟩ := slotsTo_len g c
  by_cases ha : 2 ≤ runN g c false <;> by_cases hd : 2 ≤ runN g c true <;> simp [slotsTo, ha, hd] <;> omega
theorem slot_round {N : Nat} (hN : 67108864 < N) {g : Gx.Grid} {R C : Nat} (D : Dims g R C) {c : Nat} (hc : c < R * C) :
  (bnd (i_run N g (c : Int) false) fun x2 =>
  bnd (i_run N g (c : Int) true) fun x3 =>
  bnd (α := Int) (
   sel (decide (x2 ≥ 2))
    (some (w64 (((slotsTo g c).2 : Int) + 1)))
    (sel (decide (x3 ≥ 2))
     (some (w64 (((slotsTo g c).2 : Int) + 1)))
     (some ((slotsTo g c).2 : Int)))) fun t4 =>
  bnd (α := (List (Gx.Slot))) (
   sel (decide (x2 ≥ 2))
    (chk ((slotsTo g c).1.length + ([(⟨t4, false, (c : Int), x2⟩ : Gx.Slot)]).length ≤ 274877906944) <|
    some ((slotsTo g c).1 ++ ([(⟨t4, false, (c : Int), x2⟩ : Gx.Slot)])))
    (some (slotsTo g c).1)) fun t5 =>
  sel (decide (x3 ≥ 2))
   (chk (t5.length + ([(⟨t4, true, (c : Int), x3⟩ : Gx.Slot)]).length ≤ 274877906944) <|
   some (Sum.inl (β := List Gx.Slot) (t5 ++ ([(⟨t4, true, (c : Int), x3⟩ : Gx.Slot)]), t4, w64 ((c : Int) + 1))))
   (some (Sum.inl (β := List Gx.Slot) (t5, t4, w64 ((c : Int) + 1))))) = some (Sum.inl ((slotsTo g (c + 1)).1, (((slotsTo g (c + 1)).2 : Nat) : Int), ((c + 1 : Nat) : Int))) := by
 have h36 := rc36 D.r2.2 D.c2.2
 obtain ⟨l1, l2⟩ := slotsTo_len g c
 rw [p_i_run hN D hc, p_i_run hN D hc, bnd_mk, bnd_mk, w64_nat (by omega), w64_nat (by omega)]
 simp only [slotsTo]
 generalize runN g c false = a
 generalize runN g c true = d
 generalize slotsTo g c = q at l1 l2 ⊢
 by_cases ha : 2 ≤ a <;> by_cases hd : 2 ≤ d
 ·rw [sel_pos (by omega), bnd_mk, sel_pos (by omega), chk_pos (by simp; omega), bnd_mk, sel_pos (by omega), chk_pos (by simp; omega)]
  simp [ha, hd]
 ·rw [sel_pos (by omega), bnd_mk, sel_pos (by omega), chk_pos (by simp; omega), bnd_mk, sel_neg (by omega)]
  simp [ha, hd]
 ·rw [sel_neg (by omega), sel_pos (by omega), bnd_mk, sel_neg (by omega), bnd_mk, sel_pos (by omega), chk_pos (by simp; omega)]
  simp [ha, hd]
 ·rw [sel_neg (by omega), sel_neg (by omega), bnd_mk, sel_neg (by omega), bnd_mk, sel_neg (by omega)]
  simp [ha, hd]
theorem p_i_SlotsOf {N : Nat} (hN : 67108864 < N) (g : Gx.Grid) : i_SlotsOf N g = some (slots g) := by
 unfold i_SlotsOf slots
 rw [p_i_IsGrid hN, bnd_mk, sel_not]
 cases hg : isGrid g with
 | false => rfl
 | true =>
  obtain ⟨R, C, D⟩ := (isGrid_ok hg).dims
  have h36 := rc36 D.r2.2 D.c2.2
  have hlen := D.len
  rw [sel_true, if_pos rfl]
  have := loopN_inv (N := N) (step := i_SlotsOf_L1 N g) (fun i => ((slotsTo g i).1, (((slotsTo g i).2 : Nat) : Int), (i : Int))) (n := g.mCells.length) (b := (slotsTo g g.mCells.length).1) (fun i hi => by
   unfold i_SlotsOf_L1
   simp only
   rw [sel_pos (by omega)]
   exact slot_round hN D (by omega)) (by
   unfold i_SlotsOf_L1
   simp only
   rw [sel_neg (by omega)]) (by omega)
  rw [show (([] : List Gx.Slot), (0 : Int), (0 : Int)) = ((slotsTo g 0).1, (((slotsTo g 0).2 : Nat) : Int), ((0 : Nat) : Int)) from rfl, this, bnd_mk]
theorem p_s_SlotsOf {N : Nat} (hN : 67108864 < N) (g : Gx.Grid) (hl : g.mCells.length ≤ 1048576) : s_SlotsOf N g = some (slots g) := by
 unfold s_SlotsOf slots
 cases hg : isGrid g with
 | false =>
  rw [if_neg (by simp)]
  have : loopN (s_SlotsOf_L1 N g) N ([], 0, 0) = some [] := by
   refine loopN_inv (N := N) (step := s_SlotsOf_L1 N g) (fun _ => ([], 0, 0)) (n := 0) (b := []) (fun i hi => by omega) ?_ (by omega)
   unfold s_SlotsOf_L1
   simp only
   rw [p_s_IsGrid hN, bnd_mk, hg, sel_false, sel_ite]
   split <;> rfl
  rw [this, bnd_mk]
 | true =>
  obtain ⟨R, C, D⟩ := (isGrid_ok hg).dims
  have h36 := rc36 D.r2.2 D.c2.2
  have hlen := D.len
  rw [if_pos rfl]
  have := loopN_inv (N := N) (step := s_SlotsOf_L1 N g) (fun i => ((slotsTo g i).1, (((slotsTo g i).2 : Nat) : Int), (i : Int))) (n := g.mCells.length) (b := (slotsTo g g.mCells.length).1) (fun i hi => by
   unfold s_SlotsOf_L1
   simp only
   rw [sel_pos (by omega), p_s_IsGrid hN, bnd_mk, hg, sel_true]
   simp only [e_run]
   exact slot_round hN D (by omega)) (by
   unfold s_SlotsOf_L1
   simp only
   rw [sel_neg (by omega)]) (by omega)
  rw [show (([] : List Gx.Slot), (0 : Int), (0 : Int)) = ((slotsTo g 0).1, (((slotsTo g 0).2 : Nat) : Int), ((0 : Nat) : Int)) from rfl, this, bnd_mk]
/-- what is known of a slot -/
structure SlotIn (g : Gx.Grid) (R C : Nat) (s : Gx.Slot) (c : Nat) : Prop where
 cell : s.mCell = (c : Int)
 lt : c < R * C
 len : s.mLength = ((runN g c s.mDown : Nat) : Int)
 two : 2 ≤ runN g c s.mDown
theorem slotsTo_in {g : Gx.Grid} {R C : Nat} : ∀ n, n ≤ R * C → ∀ s ∈ (slotsTo g n).1, ∃ c, c < n ∧ SlotIn g R C s c
 | 0, _, s, h => by simp [slotsTo] at h
 | n + 1, hn, s, h => by
  simp only [slotsTo, List.mem_append] at h
  rcases h with (h | h) | h
  ·obtain ⟨c, h1, h2⟩ := slotsTo_in (R := R) (C := C) n (by omega) s h
   exact ⟨c, by omega, h2⟩
  ·split at h
   ·rename_i h2
    simp only [List.mem_cons, List.not_mem_nil, or_false] at h
    subst h
    exact ⟨n, by omega, rfl, by omega, rfl, h2⟩
   ·simp at h
  ·split at h
   ·rename_i h2
    simp only [List.mem_cons, List.not_mem_nil, or_false] at h
    subst h
    exact ⟨n, by omega, rfl, by omega, rfl, h2⟩
   ·simp at h
theorem slotsTo_nodup {g : Gx.Grid} {R C : Nat} : ∀ n, n ≤ R * C → (slotsTo g n).1.Nodup
 | 0, _ => by simp [slotsTo]
 | n + 1, hn => by
  have ih := slotsTo_nodup (g := g) (R := R) (C := C) n (by omega)
  have old := slotsTo_in (g := g) (R := R) (C := C) n (by omega)
  have fresh : ∀ (m l : Int) (d : Bool), (⟨m, d, (n : Int), l⟩ : Gx.Slot) ∉ (slotsTo g n).1 := by
   intro m l d h
   obtain ⟨c, h1, h2⟩ := old _ h
   have := h2.cell
   simp only at this
   omega
  have snoc : ∀ (l : List Gx.Slot) (x : Gx.Slot), l.Nodup → x ∉ l → (l ++ [x]).Nodup := by
   intro l x h1 h2
   rw [List.nodup_append]
   refine ⟨h1, by simp, fun a ha b hb e => ?_⟩
   simp only [List.mem_cons, List.not_mem_nil, or_false] at hb
   subst e; subst hb; exact h2 ha
  simp only [slotsTo]
  by_cases ha : 2 ≤ runN g n false
  ·rw [if_pos ha]
   by_cases hd : 2 ≤ runN g n true
   ·rw [if_pos hd]
    refine snoc _ _ (snoc _ _ ih (fresh _ _ _)) fun h => ?_
    rcases List.mem_append.1 h with h | h
    ·exact fresh _ _ _ h
    ·simp at h
   ·rw [if_neg hd, List.append_nil]
    exact snoc _ _ ih (fresh _ _ _)
  ·rw [if_neg ha, List.append_nil]
   by_cases hd : 2 ≤ runN g n true
   ·rw [if_pos hd]
    exact snoc _ _ ih (fresh _ _ _)
   ·rw [if_neg hd, List.append_nil]
    exact ih
theorem slots_in {g : Gx.Grid} {R C : Nat} (D : Dims g R C) {s : Gx.Slot} (h : s ∈ slots g) : ∃ c, SlotIn g R C s c := by
 unfold slots at h
 split at h
 ·obtain ⟨c, _, h2⟩ := slotsTo_in (g := g) (R := R) (C := C) g.mCells.length (by rw [D.len]; exact Nat.le_refl _) s h
  exact ⟨c, h2⟩
 ·cases h
theorem slots_grid {g : Gx.Grid} {s : Gx.Slot} (h : s ∈ slots g) : isGrid g = true := by
 unfold slots at h
 split at h
 ·assumption
 ·cases h
theorem slots_nodup (g : Gx.Grid) : (slots g).Nodup := by
 unfold slots
 split
 ·rename_i h
  obtain ⟨R, C, D⟩ := (isGrid_ok h).dims
  exact slotsTo_nodup (g := g) (R := R) (C := C) _ (by rw [D.len]; exact Nat.le_refl _)
 ·exact List.nodup_nil
theorem slots_len (g : Gx.Grid) : (slots g).length ≤ 72 := by
 unfold slots
 split
 ·rename_i h
  obtain ⟨R, C, D⟩ := (isGrid_ok h).dims
  have := (slotsTo_len g g.mCells.length).1
  have := rc36 D.r2.2 D.c2.2
  have := D.len
  omega
 ·simp
def cellN (g : Gx.Grid) (s : Gx.Slot) (k : Nat) : Nat := s.mCell.toNat + k * dStep g s.mDown
def cellsL (g : Gx.Grid) (s : Gx.Slot) : List Int := (List.range s.mLength.toNat).map fun k => (cellN g s k : Int)
theorem range_get {n i : Nat} {k : Nat} (h : (List.range n)[i]? = some k) : k = i ∧ i < n := by
 have h1 := (List.getElem?_eq_some_iff.1 h)
 obtain ⟨h2, h3⟩ := h1
 rw [List.getElem_range] at h3
 exact ⟨h3.symm, by simpa using h2⟩
theorem SlotIn.bound {g : Gx.Grid} {R C : Nat} (D : Dims g R C) {s : Gx.Slot} {c : Nat} (S : SlotIn g R C s c) {k : Nat} (hk : k < s.mLength.toNat) : cellN g s k < R * C := by
 have h1 : s.mLength.toNat = runN g c s.mDown := by rw [S.len]; rfl
 have h2 : s.mCell.toNat = c := by rw [S.cell]; rfl
 unfold cellN
 rw [h2]
 exact runN_in D S.lt s.mDown (by omega)
theorem slot_cell {g : Gx.Grid} {R C : Nat} (D : Dims g R C) {s : Gx.Slot} {c : Nat} (S : SlotIn g R C s c) {k : Nat} (hk : k < s.mLength.toNat) {st : Int} (hst : st = (dStep g s.mDown : Int)) : w64 (s.mCell + w64 ((k : Int) * st)) = (cellN g s k : Int) := by
 have h := S.bound D hk
 have h36 := rc36 D.r2.2 D.c2.2
 unfold cellN at h ⊢
 have h2 : s.mCell.toNat = c := by rw [S.cell]; rfl
 subst hst
 rw [← Int.natCast_mul, w64_in (n := ((k * dStep g s.mDown : Nat) : Int)) (by omega) (by omega), S.cell, w64_in (by omega) (by omega), Int.toNat_natCast]
 rfl
theorem p_i_cells {N : Nat} (hN : 67108864 < N) {g : Gx.Grid} {R C : Nat} (D : Dims g R C) {s : Gx.Slot} {c : Nat} (S : SlotIn g R C s c) : i_cells N g s = some (cellsL g s) := by
 unfold i_cells
 have e2 : g.mCols.toNat = C := by rw [D.c]; rfl
 have h6 : runN g c s.mDown ≤ 6 := runN_le D c s.mDown
 have et : sel s.mDown (some g.mCols) (some (1 : Int)) = some ((dStep g s.mDown : Nat) : Int) := by
  unfold dStep
  rw [e2]
  cases s.mDown <;> simp [D.c]
 have hl : s.mLength = ((s.mLength.toNat : Nat) : Int) := by rw [S.len]; rfl
 have hl6 : s.mLength.toNat ≤ 6 := by rw [S.len, Int.toNat_natCast]; exact h6
 rw [et, bnd_mk]
 have := loop_map (N := N) (l := List.range s.mLength.toNat) (step := i_cells_L1 N s ((dStep g s.mDown : Nat) : Int)) (fun k => (cellN g s k : Int)) (fi := fun a => a) (fun i k a hk hi ha => by
  obtain ⟨rfl, hk2⟩ := range_get hk
  unfold i_cells_L1
  simp only
  rw [sel_pos (by omega), slot_cell D S hk2 rfl, chk_pos (by simp only [List.length_cons, List.length_nil]; omega)]) (fun a => by
  unfold i_cells_L1
  simp only [List.length_range]
  rw [sel_neg (by omega)]) (by simp; omega) (by simp; omega)
 rw [this, bnd_mk]; rfl
theorem p_i_layout {N : Nat} (hN : 67108864 < N) (g : Gx.Grid) : i_layout N g = some ((slots g).map (cellsL g)) := by
 unfold i_layout
 have h72 := slots_len g
 rw [p_i_SlotsOf hN, bnd_mk]
 have := loop_map (N := N) (l := slots g) (step := i_layout_L1 N (slots g) g) (cellsL g) (fi := fun a => a) (fun i s a hs hi ha => by
  have hm := List.mem_of_getElem? hs
  obtain ⟨R, C, D⟩ := (isGrid_ok (slots_grid hm)).dims
  obtain ⟨c, S⟩ := slots_in D hm
  unfold i_layout_L1
  simp only
  rw [sel_pos (by omega), getI_nat hs, bnd_mk, p_i_cells hN D S, bnd_mk, chk_pos (by simp only [List.length_cons, List.length_nil]; omega)]) (fun a => by
  unfold i_layout_L1
  simp only
  rw [sel_neg (by omega)]) (by omega) (by omega)
 rw [this, bnd_mk]
/-- the bytes of some cells -/
def readL (f : List UInt8) (l : List Int) : List UInt8 := l.map fun c => f.getD c.toNat 0
theorem p_i_readCells {N : Nat} (hN : 67108864 < N) (f : List UInt8) (l : List Int) (hl : l.length ≤ 1048576) (hc : ∀ c ∈ l, 0 ≤ c ∧ c < (f.length : Int)) : i_readCells N f l = some (readL f l) := by
 unfold i_readCells
 have := loop_map (N := N) (l := l) (step := i_readCells_L1 N l f) (fun c => f.getD c.toNat 0) (fi := fun a => a) (fun i c a hs hi ha => by
  have hm := hc c (List.mem_of_getElem? hs)
  unfold i_readCells_L1
  simp only
  rw [sel_pos (by omega), getI_nat hs, bnd_mk, chk_pos hm, chk_pos (by simp only [List.length_cons, List.length_nil]; omega)]) (fun a => by
  unfold i_readCells_L1
  simp only
  rw [sel_neg (by omega)]) (by omega) (by omega)
 rw [this, bnd_mk]; rfl
theorem cellsL_len (g : Gx.Grid) (s : Gx.Slot) : (cellsL g s).length = s.mLength.toNat := by simp [cellsL]
theorem cellsL_in {g : Gx.Grid} {R C : Nat} (D : Dims g R C) {s : Gx.Slot} {c : Nat} (S : SlotIn g R C s c) : ∀ x ∈ cellsL g s, 0 ≤ x ∧ x < ((R * C : Nat) : Int) := by
 intro x hx
 obtain ⟨k, hk, rfl⟩ := List.mem_map.1 hx
 have := S.bound D (k := k) (by simpa using hk)
 omega
theorem SlotIn.small {g : Gx.Grid} {R C : Nat} (D : Dims g R C) {s : Gx.Slot} {c : Nat} (S : SlotIn g R C s c) : s.mLength.toNat ≤ 6 := by
 rw [S.len, Int.toNat_natCast]; exact runN_le D c s.mDown
def patterns (g : Gx.Grid) (f : List UInt8) : List (List UInt8) := if isFill g f = true then (slots g).map fun s => readL f (cellsL g s) else []
theorem p_i_patterns {N : Nat} (hN : 67108864 < N) (g : Gx.Grid) (f : List UInt8) : i_patterns N g f = some (patterns g f) := by
 unfold i_patterns patterns
 rw [p_i_IsFill hN, bnd_mk, sel_not]
 cases hf : isFill g f with
 | false => rfl
 | true =>
  obtain ⟨G, hl⟩ := isFill_ok hf
  obtain ⟨R, C, D⟩ := G.dims
  have h36 := rc36 D.r2.2 D.c2.2
  have h72 := slots_len g
  have hlen := D.len
  rw [sel_true, if_pos rfl, p_i_layout hN, bnd_mk]
  have := loop_map (N := N) (l := (slots g).map (cellsL g)) (step := i_patterns_L1 N ((slots g).map (cellsL g)) f) (readL f) (fi := fun a => a) (fun i l a hs hi ha => by
   obtain ⟨s, hs1, rfl⟩ := List.mem_map.1 (List.mem_of_getElem? hs)
   obtain ⟨c, S⟩ := slots_in D hs1
   have h6 := S.small D
   simp only [List.length_map] at hi
   unfold i_patterns_L1
   simp only
   rw [sel_pos (by simp; omega), getI_nat hs, bnd_mk, p_i_readCells hN f _ (by rw [cellsL_len]; omega) (fun x hx => by have := cellsL_in D S x hx; omega), bnd_mk, chk_pos (by simp only [List.length_cons, List.length_nil]; omega)]) (fun a => by
   unfold i_patterns_L1
   simp only
   rw [sel_neg (by omega)]) (by simp; omega) (by simp; omega)
  rw [this, bnd_mk, List.map_map]; rfl
theorem p_s_CellsOf_loop {N : Nat} (hN : 67108864 < N) {g : Gx.Grid} {R C : Nat} (D : Dims g R C) {s : Gx.Slot} {c : Nat} (S : SlotIn g R C s c) (a : List Int) (ha : a.length ≤ 1048576) : loopN (s_CellsOf_L2 N s g) N (a, 0) = some (a ++ cellsL g s) := by
 have h6 := S.small D
 have hl : s.mLength = ((s.mLength.toNat : Nat) : Int) := by rw [S.len]; rfl
 have e2 : g.mCols.toNat = C := by rw [D.c]; rfl
 have key := loop_fold (N := N) (step := s_CellsOf_L2 N s g) (fun i a => (a, (i : Int))) (List.range s.mLength.toNat) (fun (a : List Int) (k : Nat) => a ++ [(cellN g s k : Int)]) (fun a => a) (fun i b => b.length ≤ 1048576 + i) (a := a) ha (fun b hb => by
  unfold s_CellsOf_L2
  simp only [List.length_range]
  rw [sel_neg (by omega)]) (fun i b k hb hk hi => by
  obtain ⟨rfl, hk2⟩ := range_get hk
  refine ⟨?_, by simp; omega⟩
  unfold s_CellsOf_L2
  simp only
  rw [sel_pos (by omega), w64_nat (by omega)]
  cases hd : s.mDown with
  | true =>
   have e : w64 (s.mCell + w64 ((k : Int) * g.mCols)) = (cellN g s k : Int) := slot_cell D S hk2 (by unfold dStep; rw [hd, if_pos rfl, e2, D.c])
   rw [sel_true, e, chk_pos (by simp only [List.length_cons, List.length_nil]; omega)]
  | false =>
   have e : w64 (s.mCell + (k : Int)) = (cellN g s k : Int) := by
    have := slot_cell D S hk2 (st := 1) (by unfold dStep; rw [hd, if_neg (by simp)]; rfl)
    rw [Int.mul_one, w64_in (n := (k : Int)) (by omega) (by omega)] at this
    exact this
   rw [sel_false, e, chk_pos (by simp only [List.length_cons, List.length_nil]; omega)]) (by simp; omega)
 rw [show (a, (0 : Int)) = (a, ((0 : Nat) : Int)) from rfl, key, foldl_snoc]
 rfl
theorem slot_beq (a b : Gx.Slot) : (a.mNumber == b.mNumber && (a.mDown == b.mDown && (a.mCell == b.mCell && (a.mLength == b.mLength && true)))) = decide (a = b) := by
 rw [Bool.eq_iff_iff]
 simp only [Bool.and_eq_true, beq_iff_eq, and_true, decide_eq_true_eq]
 constructor
 ·rintro ⟨h1, h2, h3, h4⟩; cases a; cases b; simp_all
 ·rintro rfl; simp
theorem p_s_CellsOf {N : Nat} (hN : 67108864 < N) {g : Gx.Grid} {R C : Nat} (D : Dims g R C) (hlg : g.mCells.length ≤ 1048576) {s : Gx.Slot} (hs : s ∈ slots g) : s_CellsOf N g s = some (cellsL g s) := by
 obtain ⟨c, S⟩ := slots_in D hs
 have h72 := slots_len g
 have h6 := S.small D
 unfold s_CellsOf
 rw [p_s_SlotsOf hN g hlg, bnd_mk]
 -- before the slot: nothing; behind it: its cells
 have nd := slots_nodup g
 have key := loopN_list (N := N) (step := s_CellsOf_L1 N (slots g) s g) (fun i a => (a, (i : Int))) (slots g) (fun r (a : List Int) => if s ∈ r then cellsL g s else a) (fun i a => if s ∈ (slots g).drop i then a = [] else a = cellsL g s) (a := []) (by rw [List.drop_zero, if_pos hs])
  (fun a ha => by
   unfold s_CellsOf_L1
   simp only
   rw [sel_neg (by omega), if_neg (by simp)])
  (fun i a x r ha hx hr hi => by
   left
   have hd : (slots g).drop i = x :: r := by rw [← hr]; rw [List.drop_eq_getElem_cons hi]; rw [List.getElem?_eq_getElem hi] at hx; cases hx; rfl
   have ndr : (x :: r).Nodup := by rw [← hd]; exact nd.sublist (List.drop_sublist _ _)
   rw [hd] at ha
   unfold s_CellsOf_L1
   simp only
   rw [sel_pos (by omega), getI_nat hx, bnd_mk, slot_beq, sel_not, w64_nat (by omega)]
   by_cases e : x = s
   ·subst e
    rw [if_pos (by simp)] at ha
    subst ha
    have hn : x ∉ r := (List.nodup_cons.1 ndr).1
    rw [sel_pos rfl, p_s_CellsOf_loop hN D S [] (by simp), bnd_mk, List.nil_append]
    refine ⟨_, rfl, by rw [hr, if_neg hn], by rw [if_pos (by simp), if_neg hn]⟩
   ·rw [sel_neg e, bnd_mk]
    refine ⟨_, rfl, ?_, ?_⟩
    ·rw [hr]
     simp only [List.mem_cons, Ne.symm e, false_or] at ha
     exact ha
    ·have : (s ∈ x :: r) = (s ∈ r) := by simp only [List.mem_cons, Ne.symm e, false_or]
     simp only [this]) (by omega)
 rw [show (([] : List Int), (0 : Int)) = ([], ((0 : Nat) : Int)) from rfl, key, if_pos hs, bnd_mk]
theorem byte_get {f : List UInt8} {n : Nat} (h : n < f.length) : f[n]? = some (f.getD n 0) := by
 rw [List.getD_eq_getElem?_getD, List.getElem?_eq_getElem h]; rfl
theorem sub_one {f : List UInt8} {n : Nat} (h : n < f.length) : sub f (n : Int) ((n + 1 : Nat) : Int) = [f.getD n 0] := by
 unfold sub
 have e : (((n + 1 : Nat) : Int) - (n : Int)).toNat = 1 := by omega
 have hx := byte_get h
 obtain ⟨h1, h2⟩ := List.getElem?_eq_some_iff.1 hx
 rw [e, Int.toNat_natCast, List.drop_eq_getElem_cons h1, h2]
 rfl
theorem patterns_get {g : Gx.Grid} {f : List UInt8} (hf : isFill g f = true) {i : Nat} {s : Gx.Slot} (hs : (slots g)[i]? = some s) : (patterns g f)[i]? = some (readL f (cellsL g s)) := by
 unfold patterns
 rw [if_pos hf, List.getElem?_map, hs]; rfl
theorem p_s_SlotPattern_loop {N : Nat} (hN : 67108864 < N) {g : Gx.Grid} {R C : Nat} (D : Dims g R C) {s : Gx.Slot} {c : Nat} (S : SlotIn g R C s c) (f : List UInt8) (hl : f.length = R * C) : loopN (s_SlotPattern_L1 N (cellsL g s) f) N ([], 0) = some (readL f (cellsL g s)) := by
 have h6 := S.small D
 have h36 := rc36 D.r2.2 D.c2.2
 have hlen := cellsL_len g s
 have := loop_map (N := N) (l := cellsL g s) (step := s_SlotPattern_L1 N (cellsL g s) f) (fun c => f.getD c.toNat 0) (fi := fun a => a) (fun i x a hx hi ha => by
  have hm := cellsL_in D S x (List.mem_of_getElem? hx)
  obtain ⟨n, rfl⟩ : ∃ n : Nat, x = (n : Int) := ⟨x.toNat, by omega⟩
  unfold s_SlotPattern_L1
  simp only
  rw [sel_pos (by omega), getI_nat hx, bnd_mk, bnd_mk, w64_nat (i := n) (by omega), chk_pos ⟨by omega, by omega, by omega⟩, sub_one (by omega), chk_pos (by simp only [List.length_cons, List.length_nil]; omega)]
  rfl) (fun a => by
  unfold s_SlotPattern_L1
  simp only
  rw [sel_neg (by omega)]) (by omega) (by omega)
 exact this
/-- the pattern of a slot by its index -/
def patAt (g : Gx.Grid) (f : List UInt8) (i : Int) : List UInt8 := if 0 ≤ i then (patterns g f).getD i.toNat [] else []
theorem patterns_len {g : Gx.Grid} {f : List UInt8} (hf : isFill g f = true) : (patterns g f).length = (slots g).length := by
 unfold patterns; rw [if_pos hf, List.length_map]
theorem p_s_SlotPattern {N : Nat} (hN : 67108864 < N) (g : Gx.Grid) (f : List UInt8) (hg : g.mCells.length ≤ 1048576) (i : Int) : s_SlotPattern N g f i = some (patAt g f i) := by
 unfold s_SlotPattern patAt
 have h72 := slots_len g
 rw [p_s_SlotsOf hN g hg, bnd_mk, p_s_IsFill hN, bnd_mk, sel_not]
 cases hf : isFill g f with
 | false =>
  have : patterns g f = [] := by unfold patterns; rw [hf]; rfl
  rw [this, sel_false]
  split <;> simp
 | true =>
  obtain ⟨G, hl⟩ := isFill_ok hf
  obtain ⟨R, C, D⟩ := G.dims
  rw [sel_true, p_s_l1In, bnd_mk, sel_not, sel_ite, w64_in (by omega) (by omega)]
  have hpl := patterns_len hf
  by_cases hi : 0 ≤ i ∧ i ≤ ((slots g).length : Int) - 1
  ·rw [if_pos hi, if_pos hi.1]
   obtain ⟨n, rfl⟩ : ∃ n : Nat, i = (n : Int) := ⟨i.toNat, by omega⟩
   have hx : (slots g)[n]? = some (slots g)[n] := List.getElem?_eq_getElem (by omega)
   generalize (slots g)[n] = s at hx
   have hm := List.mem_of_getElem? hx
   obtain ⟨c, S⟩ := slots_in D hm
   rw [getI_nat hx, bnd_mk, p_s_CellsOf hN D hg hm, bnd_mk, p_s_SlotPattern_loop hN D S f (by rw [hl, D.len]), bnd_mk]
   rw [Int.toNat_natCast, List.getD_eq_getElem?_getD, patterns_get hf hx]; rfl
  ·rw [if_neg hi]
   split
   ·have : i.toNat ≥ (patterns g f).length := by omega
    rw [List.getD_eq_getElem?_getD, List.getElem?_eq_none this]; rfl
   ·rfl
def isOpen (s : List UInt8) : Bool := s.any (· == 63)
def openN (s : List UInt8) : Nat := (s.filter (· == 63)).length
theorem openN_zero (s : List UInt8) : (((openN s : Nat) : Int) == 0) = !isOpen s := by
 unfold openN isOpen
 rw [Bool.eq_iff_iff]
 simp only [beq_iff_eq, Bool.not_eq_true', List.any_eq_false]
 constructor
 ·intro h c hc hq
  have : c ∈ s.filter (· == 63) := List.mem_filter.2 ⟨hc, by simpa using hq⟩
  have := List.length_pos_of_mem this
  omega
 ·intro h
  have : s.filter (· == 63) = [] := by
   rw [List.filter_eq_nil_iff]
   intro c hc hq; exact h c hc (by simpa using hq)
  rw [this]; rfl
theorem foldl_count (p : UInt8 → Bool) : ∀ (l : List UInt8) (n : Int), l.foldl (fun a c => if p c = true then a + 1 else a) n = n + (l.filter p).length
 | [], n => by simp
 | c :: r, n => by
  simp only [List.foldl_cons, foldl_count p r, List.filter_cons]
  split <;> simp <;> omega
theorem p_i_openIn {N : Nat} (s : List UInt8) (hs : s.length ≤ 274877906944) (hN : s.length < N) : i_openIn N s = some (openN s : Int) := by
 unfold i_openIn openN
 have key := loop_fold (N := N) (step := i_openIn_L1 N s) (fun i a => (a, (i : Int))) s (fun (a : Int) (c : UInt8) => if (c == 63) = true then a + 1 else a) (fun a => a) (fun i a => 0 ≤ a ∧ a ≤ i) (a := 0) ⟨by omega, by omega⟩ (fun a ha => by
  unfold i_openIn_L1
  simp only
  rw [sel_neg (by omega)]) (fun i a c ha hc hi => by
  unfold i_openIn_L1
  simp only
  rw [sel_pos (by omega), chk_pos ⟨by omega, by omega⟩, byteI_nat hc, eq63, w64_nat (by omega), w64_in (by omega) (by omega)]
  cases c == 63
  ·exact ⟨rfl, by simp; omega⟩
  ·exact ⟨rfl, by simp; omega⟩) hN
 rw [show ((0 : Int), (0 : Int)) = (0, ((0 : Nat) : Int)) from rfl, key, bnd_mk, foldl_count, Int.zero_add]
theorem p_s_l11Open {N : Nat} (s : List UInt8) (hs : s.length ≤ 274877906944) (hN : s.length < N) : s_l11Open N s = some (isOpen s) := by
 unfold s_l11Open isOpen
 rw [loop_all (l := s) (fun c => !(c == 63)) (b := true) (fun i c hc hi => by
  unfold s_l11Open_L1
  rw [sel_pos (by omega), chk_pos ⟨by omega, by omega⟩, byteI_nat hc, eq63]
  cases c == 63 <;> rfl) (by unfold s_l11Open_L1; rw [sel_neg (by omega)]) (by omega) hN]
 rw [List.all_eq_not_any_not]
 simp only [Bool.not_not]
 cases s.any (fun x => x == 63) <;> rfl
theorem pats_len (g : Gx.Grid) (f : List UInt8) : (patterns g f).length ≤ 72 := by
 unfold patterns
 split
 ·rw [List.length_map]; exact slots_len g
 ·simp
/-- the fill with no letter yet -/
def emptyFill (g : Gx.Grid) : List UInt8 := if isGrid g = true then g.mCells.map (fun c => if c = 46 then 63 else c) else []
theorem p_i_EmptyFill {N : Nat} (hN : 67108864 < N) (g : Gx.Grid) : i_EmptyFill N g = some (emptyFill g) := by
 unfold i_EmptyFill emptyFill
 rw [p_i_IsGrid hN, bnd_mk, sel_not]
 cases hg : isGrid g with
 | false => rfl
 | true =>
  have h36 := (isGrid_ok hg).small
  rw [sel_true, if_pos rfl]
  unfold g_strings_ReplaceAll
  rw [chk_pos ⟨by omega, rfl, rfl⟩, bnd_mk, replaceAll_one (by decide)]
theorem p_s_EmptyFill {N : Nat} (hN : 67108864 < N) (g : Gx.Grid) : s_EmptyFill N g = some (emptyFill g) := by
 unfold s_EmptyFill emptyFill
 cases hg : isGrid g with
 | false =>
  have : loopN (s_EmptyFill_L1 N g) N ([], 0) = some [] := by
   refine loopN_inv (N := N) (step := s_EmptyFill_L1 N g) (fun _ => ([], 0)) (n := 0) (b := []) (fun i hi => by omega) ?_ (by omega)
   unfold s_EmptyFill_L1
   simp only
   rw [p_s_IsGrid hN, bnd_mk, hg, sel_false, sel_ite]
   split <;> rfl
  rw [this, bnd_mk]
  rfl
 | true =>
  have h36 := (isGrid_ok hg).small
  have hc := (isGrid_ok hg).cells
  rw [loop_map (l := g.mCells) (fun c => if c = 46 then 63 else c) (fi := id) (fun i x a hx hi ha => by
   have hx' := hc x (List.mem_of_getElem? hx)
   unfold s_EmptyFill_L1
   simp only
   rw [sel_pos (by omega), p_s_IsGrid hN, bnd_mk, hg, sel_true, chk_pos ⟨by omega, by omega⟩, byteI_nat hx, eq35]
   rcases hx' with rfl | rfl
   ·rw [if_neg (by decide)]
    simp only [beq_self_eq_true, sel_true]
    rw [chk_pos (by simp only [List.length_singleton]; omega)]
   ·rw [if_pos rfl]
    have : ((46 : UInt8) == 35) = false := by decide
    rw [this, sel_false, chk_pos (by simp only [List.length_singleton]; omega)]) (fun a => by
   unfold s_EmptyFill_L1
   simp only
   rw [sel_neg (by omega)]; rfl) (by omega) (by omega), bnd_mk]
  rfl
def isWord (s : List UInt8) : Bool := decide (1 ≤ s.length ∧ s.length ≤ 8) && s.all isLet
theorem p_i_IsWord {N : Nat} (hN : 67108864 < N) (s : List UInt8) : i_IsWord N s = some (isWord s) := by
 unfold i_IsWord i_InRange isWord
 by_cases h : 1 ≤ s.length ∧ s.length ≤ 8
 ·rw [sel_pos (by omega), bnd_mk, decide_eq_true (p := ((s.length : Int) ≤ 8)) (by omega), Bool.not_true, sel_false, loop_all (N := N) (l := s) isLet (b := false) (fun i c hc hi => by
   unfold i_IsWord_L1
   rw [sel_pos (by omega), chk_pos (by omega), byteI_nat hc, p_i_isLetter, bnd_mk]
   cases isLet c <;> rfl) (by unfold i_IsWord_L1; rw [sel_neg (by omega)]) (by omega) (by omega), decide_eq_true h]
  cases s.all isLet <;> rfl
 ·rw [decide_eq_false h, Bool.false_and, sel_ite]
  split
  ·rw [bnd_mk, decide_eq_false (p := ((s.length : Int) ≤ 8)) (by omega)]; rfl
  ·rfl
theorem p_s_IsWord {N : Nat} (hN : 67108864 < N) (s : List UInt8) : s_IsWord N s = some (isWord s) := by
 unfold s_IsWord s_l1In isWord
 by_cases h : 1 ≤ s.length ∧ s.length ≤ 8
 ·rw [sel_pos (by omega), bnd_mk, decide_eq_true (p := ((s.length : Int) ≤ 8)) (by omega), Bool.not_true, sel_false, loop_all (N := N) (l := s) isLet (b := false) (fun i c hc hi => by
   unfold s_IsWord_L1
   rw [sel_pos (by omega), chk_pos (by omega), byteI_nat hc]
   unfold isLet
   by_cases h1 : 97 ≤ c.toNat
   ·rw [sel_neg (by omega), chk_pos (by omega)]
    by_cases h2 : c.toNat ≤ 122
    ·rw [sel_neg (by omega), if_pos (by simp [h1, h2])]
    ·rw [sel_pos (by omega), if_neg (by simp [h2])]
   ·rw [sel_pos (by omega), if_neg (by simp [h1])]) (by unfold s_IsWord_L1; rw [sel_neg (by omega)]) (by omega) (by omega), decide_eq_true h]
  cases s.all isLet <;> rfl
 ·rw [decide_eq_false h, Bool.false_and, sel_ite]
  split
  ·rw [bnd_mk, decide_eq_false (p := ((s.length : Int) ≤ 8)) (by omega)]; rfl
  ·rfl
def inR (n a b : Int) : Bool := decide (a ≤ n ∧ n ≤ b)
theorem p_i_inR (N : Nat) (n a b : Int) : i_InRange N n a b = some (inR n a b) := p_i_InRange N n a b
theorem p_s_inR (N : Nat) (n a b : Int) : s_l1In N n a b = some (inR n a b) := p_s_l1In N n a b
/-- the first, or out -/
def firstV {α β : Type} (f : Nat → α → Option β) : List α → Nat → β → β
 | [], _, b => b
 | x :: r, i, b => match f i x with | some y => y | none => firstV f r (i + 1) b
theorem loop_first {α β : Type} {l : List α} {step : Int → Option (Sum Int β)} (f : Nat → α → Option β) {b : β} {N : Nat}
  (hs : ∀ i x, l[i]? = some x → i < l.length → step (i : Int) = some (match f i x with | some y => .inr y | none => .inl (w64 ((i : Int) + 1)))) (he : step (l.length : Int) = some (.inr b))
  (hl : l.length ≤ 4611686018427387904) (hN : l.length < N) : loopN step N 0 = some (firstV f l 0 b) :=
 loopN_list (N := N) (step := step) (fun i (a : Nat) => (i : Int)) l (fun r a => firstV f r a b) (fun i a => a = i) (a := 0) rfl
  (fun a ha => by rw [he]; rfl)
  (fun i a x r ha hx hr hi => by
   subst ha
   rw [hs a x hx hi]
   simp only [firstV]
   cases f a x with
   | some y => right; rfl
   | none => left; rw [w64_nat (by omega)]; exact ⟨a + 1, rfl, rfl, rfl⟩) hN
structure CpIss (x : Gx.Issue) : Prop where
 clues : x.mPuzzle.mClues.length ≤ 1048576
 play : ∀ c ∈ x.mPuzzle.mClues, c.mPlay.length ≤ 1048576
 seals : x.mPuzzle.mSeals.length ≤ 1048576
 cells : x.mPuzzle.mGrid.mCells.length ≤ 1048576
theorem cp_clue {c : Gx.Clue} : c.mPlay.length ≤ c.size := by
 unfold Gx.Clue.size
 omega
theorem cp_iss {x : Gx.Issue} (hs : x.size ≤ 1048576) : CpIss x := by
 unfold Gx.Issue.size Gx.Puzzle.size Gx.Grid.size at hs
 refine ⟨by omega, fun c hc => ?_, by omega, by omega⟩
 have h2 : c.size ≤ (x.mPuzzle.mClues.map (fun e : Gx.Clue => e.size)).sum := mem_sum (fun e : Gx.Clue => e.size) hc
 have h3 := @cp_clue c
 omega
theorem cp_issues {h : Gx.House} (hs : h.size ≤ 1048576) : h.mIssues.length ≤ 1048576 ∧ ∀ x ∈ h.mIssues, CpIss x := by
 unfold Gx.House.size at hs
 refine ⟨by omega, fun x hx => cp_iss ?_⟩
 have h2 : x.size ≤ (h.mIssues.map (fun e : Gx.Issue => e.size)).sum := mem_sum (fun e : Gx.Issue => e.size) hx
 omega
theorem first_cut {α β : Type} (f : Nat → α → Option β) (z : β) : ∀ (l : List α) (i : Nat), cutb (some (firstV (fun i x => (f i x).map Cut.rt) l i (Cut.nx ()))) (fun _ => some z) = some (firstV f l i z)
 | [], i => rfl
 | x :: r, i => by
  simp only [firstV]
  cases f i x with
  | some y => rfl
  | none => exact first_cut f z r (i + 1)
def nbr (C n i j : Nat) : Prop := (0 < i % C ∧ j + 1 = i) ∨ (i % C + 1 < C ∧ j = i + 1) ∨ (C ≤ i ∧ j + C = i) ∨ (i + C < n ∧ j = i + C)
inductive Conn (C n : Nat) (w : Nat → Bool) (a : Nat) : Nat → Prop
 | refl : Conn C n w a a
 | step {b c : Nat} : Conn C n w a b → nbr C n b c → w c = true → Conn C n w a c
theorem Conn.trans {C n : Nat} {w : Nat → Bool} {a b c : Nat} (h1 : Conn C n w a b) (h2 : Conn C n w b c) : Conn C n w a c := by
 induction h2 with
 | refl => exact h1
 | step _ hn hw ih => exact .step ih hn hw
theorem Conn.cons {C n : Nat} {w : Nat → Bool} {a b c : Nat} (hn : nbr C n a b) (hw : w b = true) (h2 : Conn C n w b c) : Conn C n w a c := Conn.trans (.step .refl hn hw) h2
theorem small_cases {C : Nat} (h1 : 2 ≤ C) (h2 : C ≤ 6) : C = 2 ∨ C = 3 ∨ C = 4 ∨ C = 5 ∨ C = 6 := by omega
theorem nbr_symm {C R i j : Nat} (h1 : 2 ≤ C) (h2 : C ≤ 6) (hi : i < R * C) (h : nbr C (R * C) i j) : nbr C (R * C) j i ∧ j < R * C := by
 unfold nbr at h ⊢
 rcases small_cases h1 h2 with rfl | rfl | rfl | rfl | rfl <;> omega
/-- the cell that a row and a column name -/
def tgt (R C : Nat) (r c : Int) (t : Nat) : Prop := 0 ≤ r ∧ r < (R : Int) ∧ 0 ≤ c ∧ c < (C : Int) ∧ (t : Int) = r * (C : Int) + c
theorem tgt_lt {R C : Nat} {r c : Int} {t : Nat} (h1 : 2 ≤ C) (h2 : C ≤ 6) (h : tgt R C r c t) : t < R * C := by
 unfold tgt at h
 rcases small_cases h1 h2 with rfl | rfl | rfl | rfl | rfl <;> omega
theorem tgt_nbr {R C : Nat} {r c : Int} {i t : Nat} (h1 : 2 ≤ C) (h2 : C ≤ 6) (hi : tgt R C r c i) (h : tgt R C (r - 1) c t ∨ tgt R C (r + 1) c t ∨ tgt R C r (c - 1) t ∨ tgt R C r (c + 1) t) : nbr C (R * C) i t := by
 unfold tgt at h hi; unfold nbr
 rcases small_cases h1 h2 with rfl | rfl | rfl | rfl | rfl <;> omega
theorem nbr_tgt {R C : Nat} {r c : Int} {i t : Nat} (h1 : 2 ≤ C) (h2 : C ≤ 6) (hi : tgt R C r c i) (h : nbr C (R * C) i t) : tgt R C (r - 1) c t ∨ tgt R C (r + 1) c t ∨ tgt R C r (c - 1) t ∨ tgt R C r (c + 1) t := by
 unfold tgt at hi ⊢; unfold nbr at h
 rcases small_cases h1 h2 with rfl | rfl | rfl | rfl | rfl <;> omega
theorem tgt_one {R C : Nat} {r c : Int} {i t : Nat} (hi : tgt R C r c i) (h : tgt R C r c t) : t = i := by
 unfold tgt at hi h; omega
abbrev on (M : List Bool) (d : Nat) : Prop := M.getD d false = true
theorem on_set {M : List Bool} {i d : Nat} (hi : i < M.length) : on (M.set i true) d ↔ d = i ∨ on M d := by
 unfold on
 rw [List.getD_eq_getElem?_getD, List.getD_eq_getElem?_getD, List.getElem?_set]
 by_cases h : i = d
 ·subst h; simp [hi]
 ·have h' : ¬ d = i := fun e => h e.symm
  simp [h, h']
theorem on_ext {M M' : List Bool} (hl : M.length = M'.length) (h : ∀ d, on M d ↔ on M' d) : M = M' := by
 refine List.ext_getElem hl fun i h1 h2 => ?_
 have := h i
 unfold on at this
 rw [List.getD_eq_getElem?_getD, List.getD_eq_getElem?_getD, List.getElem?_eq_getElem h1, List.getElem?_eq_getElem h2] at this
 simp only [Option.getD_some] at this
 cases ha : M[i] <;> cases hb : M'[i] <;> simp_all
def offs : List Bool → Nat
 | [] => 0
 | b :: r => (if b = true then 0 else 1) + offs r
theorem offs_set : ∀ {M : List Bool} {i : Nat}, M[i]? = some false → offs (M.set i true) + 1 = offs M
 | [], i, h => by simp at h
 | b :: r, 0, h => by simp at h; subst h; simp [offs]; omega
 | b :: r, i + 1, h => by
  have := offs_set (M := r) (i := i) (by simpa using h)
  simp only [List.set_cons_succ, offs]; omega
theorem offs_mono : ∀ {M M' : List Bool}, M'.length = M.length → (∀ d, on M d → on M' d) → offs M' ≤ offs M
 | [], [], _, _ => Nat.le_refl _
 | [], _ :: _, h, _ => by simp at h
 | _ :: _, [], h, _ => by simp at h
 | a :: r, b :: s, hl, h => by
  have ih := offs_mono (M := r) (M' := s) (by simpa using hl) (fun d hd => by have := h (d + 1) (by simpa [on] using hd); simpa [on] using this)
  have h0 := h 0
  simp only [offs]
  cases a <;> cases b <;> simp [on] at h0 <;> simp <;> omega
theorem offs_le : ∀ (M : List Bool), offs M ≤ M.length
 | [] => Nat.le_refl _
 | b :: r => by have := offs_le r; simp only [offs, List.length_cons]; split <;> omega
/-- what a visit does -/
structure Vis (C n : Nat) (w : Nat → Bool) (M M' : List Bool) (T : Nat → Prop) : Prop where
 len : M'.length = n
 mono : ∀ d, on M d → on M' d
 new : ∀ d, on M' d → ¬ on M d → d < n ∧ w d = true ∧ ∃ t, T t ∧ w t = true ∧ Conn C n w t d
 tg : ∀ t, T t → w t = true → on M' t
 cl : ∀ d, on M' d → ¬ on M d → ∀ e, nbr C n d e → w e = true → on M' e
theorem getI_on {M : List Bool} {i : Nat} (h : i < M.length) : getI M (i : Int) = some (M.getD i false) := by
 rw [List.getD_eq_getElem?_getD, List.getElem?_eq_getElem h]
 exact getI_nat (List.getElem?_eq_getElem h)
theorem p_i_at (N : Nat) (a b : Int) : i_at N a b = some (decide (0 ≤ a) && decide (a < b)) := by
 unfold i_at
 rw [show decide (a ≥ 0) = decide (0 ≤ a) from rfl]
 cases decide (0 ≤ a) <;> rfl
theorem visit_ok {N : Nat} {g : Gx.Grid} {R C : Nat} (D : Dims g R C) : ∀ (k : Nat) (M : List Bool) (r c : Int), -1 ≤ r → r ≤ R → -1 ≤ c → c ≤ C → M.length = R * C → offs M < k →
  ∃ M', i_PartsOf_1_R N k r c g M = some M' ∧ Vis C (R * C) (dot g) M M' (tgt R C r c)
 | 0, M, r, c, _, _, _, _, _, h => by omega
 | k + 1, M, r, c, hr1, hr2, hc1, hc2, hlen, hoff => by
  have hC1 := D.c2.1; have hC2 := D.c2.2; have hR2 := D.r2.2
  have hrc := rc36 hR2 hC2
  have none_ : ∀ {T : Nat → Prop}, (∀ t, T t → dot g t = true → on M t) → Vis C (R * C) (dot g) M M T := fun hT => ⟨hlen, fun _ h => h, fun d h hn => absurd h hn, hT, fun d h hn => absurd h hn⟩
  simp only [i_PartsOf_1_R]
  unfold i_PartsOf_1_B
  rw [p_i_at, bnd_mk, D.r, sel_not]
  by_cases hr : 0 ≤ r ∧ r < (R : Int)
  ·rw [decide_eq_true hr.1, decide_eq_true hr.2, Bool.true_and, sel_true, p_i_at, bnd_mk, D.c, sel_not]
   by_cases hc : 0 ≤ c ∧ c < (C : Int)
   ·rw [decide_eq_true hc.1, decide_eq_true hc.2, Bool.true_and, sel_true]
    obtain ⟨i, hi⟩ : ∃ i : Nat, tgt R C r c i := ⟨(r * (C : Int) + c).toNat, hr.1, hr.2, hc.1, hc.2, by
     have : 0 ≤ r * (C : Int) := Int.mul_nonneg hr.1 (by omega)
     omega⟩
    have hin := tgt_lt hC1 hC2 hi
    have he : w64 (w64 (r * (C : Int)) + c) = (i : Int) := by
     have h5 := hi.2.2.2.2
     rw [w64_in (n := r * (C : Int)) (by omega) (by omega), w64_in (by omega) (by omega)]; omega
    rw [he, getI_on (by omega), bnd_mk]
    cases hm : M.getD i false with
    | true => exact ⟨M, rfl, none_ fun t ht _ => by rw [tgt_one hi ht]; exact hm⟩
    | false =>
     rw [sel_false, chk_pos (by have := D.len; omega)]
     have hb : ((byteI g.mCells (i : Int)) != 46) = !dot g i := by rw [bne, dot_byte (by have := D.len; omega)]
     rw [hb, sel_not]
     cases hw : dot g i with
     | false => exact ⟨M, rfl, none_ fun t ht hwt => by rw [tgt_one hi ht, hw] at hwt; cases hwt⟩
     | true =>
      rw [sel_true, bnd_mk]
      have hmi : M[i]? = some false := by
       rw [List.getD_eq_getElem?_getD, List.getElem?_eq_getElem (by omega)] at hm
       rw [List.getElem?_eq_getElem (by omega)]; simpa using hm
      have hnoton : ¬ on M i := by unfold on; rw [hm]; simp
      have h0 : offs (M.set i true) < k := by have := offs_set hmi; omega
      have hl0 : (M.set i true).length = R * C := by simpa using hlen
      have ei : Int.toNat (i : Int) = i := by omega
      rw [ei, w64_in (n := r - 1) (by omega) (by omega), w64_in (n := r + 1) (by omega) (by omega), w64_in (n := c - 1) (by omega) (by omega), w64_in (n := c + 1) (by omega) (by omega)]
      obtain ⟨M2, e2, V2⟩ := visit_ok (N := N) D k (M.set i true) (r - 1) c (by omega) (by omega) hc1 hc2 hl0 h0
      have o2 := offs_mono (by rw [V2.len, hl0]) V2.mono
      obtain ⟨M3, e3, V3⟩ := visit_ok (N := N) D k M2 (r + 1) c (by omega) (by omega) hc1 hc2 V2.len (by omega)
      have o3 := offs_mono (by rw [V3.len, V2.len]) V3.mono
      obtain ⟨M4, e4, V4⟩ := visit_ok (N := N) D k M3 r (c - 1) hr1 hr2 (by omega) (by omega) V3.len (by omega)
      have o4 := offs_mono (by rw [V4.len, V3.len]) V4.mono
      obtain ⟨M5, e5, V5⟩ := visit_ok (N := N) D k M4 r (c + 1) hr1 hr2 (by omega) (by omega) V4.len (by omega)
      rw [e2, bnd_mk, e3, bnd_mk, e4, bnd_mk, e5, bnd_mk]
      have m1 : ∀ d, on M d → on (M.set i true) d := fun d h => (on_set (by omega)).2 (.inr h)
      have oi : on (M.set i true) i := (on_set (by omega)).2 (.inl rfl)
      have m5 : ∀ d, on M4 d → on M5 d := V5.mono
      have m4 : ∀ d, on M3 d → on M5 d := fun d h => m5 d (V4.mono d h)
      have m3 : ∀ d, on M2 d → on M5 d := fun d h => m4 d (V3.mono d h)
      have m2 : ∀ d, on (M.set i true) d → on M5 d := fun d h => m3 d (V2.mono d h)
      have road : ∀ {t d : Nat}, (tgt R C (r - 1) c t ∨ tgt R C (r + 1) c t ∨ tgt R C r (c - 1) t ∨ tgt R C r (c + 1) t) → dot g t = true → Conn C (R * C) (dot g) t d → Conn C (R * C) (dot g) i d :=
       fun ht hwt hcn => Conn.cons (tgt_nbr hC1 hC2 hi ht) hwt hcn
      refine ⟨M5, rfl, V5.len, fun d h => m2 d (m1 d h), fun d h hn => ?_, fun t ht _ => by rw [tgt_one hi ht]; exact m2 i oi, fun d h hn e hne hwe => ?_⟩
      ·by_cases q4 : on M4 d
       ·by_cases q3 : on M3 d
        ·by_cases q2 : on M2 d
         ·by_cases q1 : on (M.set i true) d
          ·rcases (on_set (by omega)).1 q1 with rfl | q
           ·exact ⟨hin, hw, d, hi, hw, .refl⟩
           ·exact absurd q hn
          ·obtain ⟨a1, a2, t, a3, a4, a5⟩ := V2.new d q2 q1
           exact ⟨a1, a2, i, hi, hw, road (.inl a3) a4 a5⟩
         ·obtain ⟨a1, a2, t, a3, a4, a5⟩ := V3.new d q3 q2
          exact ⟨a1, a2, i, hi, hw, road (.inr (.inl a3)) a4 a5⟩
        ·obtain ⟨a1, a2, t, a3, a4, a5⟩ := V4.new d q4 q3
         exact ⟨a1, a2, i, hi, hw, road (.inr (.inr (.inl a3))) a4 a5⟩
       ·obtain ⟨a1, a2, t, a3, a4, a5⟩ := V5.new d h q4
        exact ⟨a1, a2, i, hi, hw, road (.inr (.inr (.inr a3))) a4 a5⟩
      ·by_cases q4 : on M4 d
       ·by_cases q3 : on M3 d
        ·by_cases q2 : on M2 d
         ·by_cases q1 : on (M.set i true) d
          ·rcases (on_set (by omega)).1 q1 with rfl | q
           ·rcases nbr_tgt hC1 hC2 hi hne with h | h | h | h
            ·exact m3 e (V2.tg e h hwe)
            ·exact m4 e (V3.tg e h hwe)
            ·exact m5 e (V4.tg e h hwe)
            ·exact V5.tg e h hwe
           ·exact absurd q hn
          ·exact m3 e (V2.cl d q2 q1 e hne hwe)
         ·exact m4 e (V3.cl d q3 q2 e hne hwe)
        ·exact m5 e (V4.cl d q4 q3 e hne hwe)
       ·exact V5.cl d h q4 e hne hwe
   ·have : (decide (0 ≤ c) && decide (c < (C : Int))) = false := by simp; omega
    rw [this]
    exact ⟨M, rfl, none_ fun t ht _ => absurd ⟨ht.2.2.1, ht.2.2.2.1⟩ hc⟩
  ·have : (decide (0 ≤ r) && decide (r < (R : Int))) = false := by simp; omega
   rw [this]
   exact ⟨M, rfl, none_ fun t ht _ => absurd ⟨ht.1, ht.2.1⟩ hr⟩
end Lw
end Go.Proofs
