/- plain laws -/
import Derived.Test.YtgmppfmemimkkaaDoorAvPhFormatSlots
import Derived.Lib.Join
namespace Go.Proofs
open Go Go.Av
set_option maxRecDepth 100000
set_option maxHeartbeats 40000000
set_option linter.unusedVariables false
set_option linter.unusedSimpArgs false
namespace Lw
theorem p_s_l1In (N : Nat) (n a b : Int) : s_l1In N n a b = some (decide (a ≤ n ∧ n ≤ b)) := by
 unfold s_l1In
 rw [sel_ite]
 split <;> simp <;> omega
theorem p_i_InRange (N : Nat) (n a b : Int) : i_InRange N n a b = some (decide (a ≤ n ∧ n ≤ b)) := by
 unfold i_InRange
 rw [sel_ite]
 split <;> simp <;> omega
def okCell (c : UInt8) : Bool := c == 35 || c == 46
def isGrid (g : Gx.Grid) : Bool := decide (2 ≤ g.mRows ∧ g.mRows ≤ 6) && decide (2 ≤ g.mCols ∧ g.mCols ≤ 6) && decide ((g.mCells.length : Int) = g.mRows * g.mCols) && g.mCells.all okCell
theorem grid_small {g : Gx.Grid} (h1 : 2 ≤ g.mRows ∧ g.mRows ≤ 6) (h2 : 2 ≤ g.mCols ∧ g.mCols ≤ 6) : 0 ≤ g.mRows * g.mCols ∧ g.mRows * g.mCols ≤ 36 :=
 ⟨Int.mul_nonneg (by omega) (by omega), Int.le_trans (Int.mul_le_mul h1.2 h2.2 (by omega) (by omega)) (by omega)⟩
theorem cell_ne (c : UInt8) : ((c.toNat : Int) != 35) = (c != 35) := by simp only [bne]; rw [show (35 : Int) = ((35 : Nat) : Int) from rfl, u8_eq (by omega)]; rfl
theorem cell_ne' (c : UInt8) : ((c.toNat : Int) != 46) = (c != 46) := by simp only [bne]; rw [show (46 : Int) = ((46 : Nat) : Int) from rfl, u8_eq (by omega)]; rfl
theorem cells_loop {N : Nat} (g : Gx.Grid) (h : g.mCells.length ≤ 36) (hN : 67108864 < N) {step : Int → Option (Sum Int (Cut Unit Bool))}
  (hs : ∀ p, step p = sel (decide (p < (g.mCells.length : Int))) (chk (0 ≤ p ∧ p < (g.mCells.length : Int)) <| sel ((byteI g.mCells p) != 35) (chk (0 ≤ p ∧ p < (g.mCells.length : Int)) <| sel ((byteI g.mCells p) != 46) (some (.inr (.rt false))) (some (.inl (w64 (p + 1))))) (some (.inl (w64 (p + 1))))) (some (.inr (.nx ())))) :
  cutb (loopN step N 0) (fun _ => some true) = some (g.mCells.all okCell) := by
 rw [loop_all (l := g.mCells) okCell (b := false) (fun i x hx hi => by
  rw [hs, sel_pos (by omega), chk_pos ⟨by omega, by omega⟩, chk_pos ⟨by omega, by omega⟩, byteI_nat hx, cell_ne, cell_ne']
  unfold okCell
  by_cases h1 : x = 35
  ·subst h1; rfl
  ·by_cases h2 : x = 46
   ·subst h2; rfl
   ·have e1 : (x != 35) = true := by simpa using h1
    have e2 : (x != 46) = true := by simpa using h2
    rw [e1, e2]; simp [h1, h2]) (by rw [hs, sel_neg (by omega)]) (by omega) (by omega)]
 split <;> simp_all
theorem p_s_IsGrid {N : Nat} (hN : 67108864 < N) (g : Gx.Grid) : s_IsGrid N g = some (isGrid g) := by
 unfold s_IsGrid isGrid
 rw [p_s_l1In, p_s_l1In]
 simp only [bnd_mk, sel_not, sel_ite]
 split
 ·rename_i h1
  split
  ·rename_i h2
   have hm := grid_small h1 h2
   rw [w64_in (by omega) (by omega)]
   by_cases h3 : (g.mCells.length : Int) = g.mRows * g.mCols
   ·have e : ((g.mCells.length : Int) != g.mRows * g.mCols) = false := by simpa using h3
    rw [e, sel_false, cells_loop g (by omega) hN (step := s_IsGrid_L1 N g) (fun p => rfl)]
    simp [h1, h2, h3]
   ·have e : ((g.mCells.length : Int) != g.mRows * g.mCols) = true := by simpa using h3
    rw [e]; simp [h3]
  ·rename_i h2; simp [h2]
 ·rename_i h1; simp [h1]
theorem p_i_IsGrid {N : Nat} (hN : 67108864 < N) (g : Gx.Grid) : i_IsGrid N g = some (isGrid g) := by
 unfold i_IsGrid isGrid
 rw [p_i_InRange, p_i_InRange]
 simp only [bnd_mk, sel_not, sel_ite]
 split
 ·rename_i h1
  split
  ·rename_i h2
   have hm := grid_small h1 h2
   rw [w64_in (by omega) (by omega)]
   by_cases h3 : (g.mCells.length : Int) = g.mRows * g.mCols
   ·have e : ((g.mCells.length : Int) != g.mRows * g.mCols) = false := by simpa using h3
    rw [e, sel_false, cells_loop g (by omega) hN (step := i_IsGrid_L1 N g) (fun p => rfl)]
    simp [h1, h2, h3]
   ·have e : ((g.mCells.length : Int) != g.mRows * g.mCols) = true := by simpa using h3
    rw [e]; simp [h3]
  ·rename_i h2; simp [h2]
 ·rename_i h1; simp [h1]
structure GridOk (g : Gx.Grid) : Prop where
 rows : 2 ≤ g.mRows ∧ g.mRows ≤ 6
 cols : 2 ≤ g.mCols ∧ g.mCols ≤ 6
 len : (g.mCells.length : Int) = g.mRows * g.mCols
 cells : ∀ c ∈ g.mCells, c = 35 ∨ c = 46
theorem isGrid_ok {g : Gx.Grid} (h : isGrid g = true) : GridOk g := by
 unfold isGrid at h
 simp only [Bool.and_eq_true, decide_eq_true_eq, List.all_eq_true] at h
 refine ⟨h.1.1.1, h.1.1.2, h.1.2, fun c hc => ?_⟩
 have := h.2 c hc
 simpa [okCell] using this
theorem eq46 (b : UInt8) : ((b.toNat : Int) == 46) = (b == 46) := by rw [show (46 : Int) = ((46 : Nat) : Int) from rfl, u8_eq (by omega)]; rfl
theorem join_snoc' (l : List (List UInt8)) (x sep : List UInt8) (h : l ≠ []) : Lib.join (l ++ [x]) sep = Lib.join l sep ++ sep ++ x := by
 unfold Lib.join
 induction l with
 | nil => exact absurd rfl h
 | cons y r ih =>
  cases r with
  | nil => simp [List.intercalate, List.intersperse]
  | cons z r =>
   have := ih (by simp)
   simp only [List.intercalate, List.cons_append, List.intersperse_cons_cons, List.flatten_cons, List.append_assoc] at this ⊢
   rw [this]
theorem join_le' (l : List (List UInt8)) (sep : List UInt8) : (Lib.join l sep).length ≤ sep.length * l.length + (l.map List.length).sum := by
 unfold Lib.join
 induction l with
 | nil => simp [List.intercalate]
 | cons y r ih =>
  cases r with
  | nil => simp [List.intercalate, List.intersperse]
  | cons z r =>
   simp only [List.intercalate, List.intersperse_cons_cons, List.flatten_cons, List.length_append, List.map_cons, List.sum_cons, List.length_cons] at ih ⊢
   have e : sep.length * (r.length + 1 + 1) = sep.length * (r.length + 1) + sep.length := by rw [Nat.mul_add]; omega
   omega
theorem sum_take_le (l : List (List UInt8)) (i : Nat) : ((l.take i).map List.length).sum ≤ (l.map List.length).sum := by
 have e : (l.map List.length).sum = ((l.take i).map List.length).sum + ((l.drop i).map List.length).sum := by rw [← List.sum_append, ← List.map_append, List.take_append_drop]
 omega
theorem join_take_le (l : List (List UInt8)) (sep : List UInt8) (i : Nat) : (Lib.join (l.take i) sep).length ≤ sep.length * l.length + (l.map List.length).sum := by
 have h1 := join_le' (l.take i) sep
 have h2 := sum_take_le l i
 have h3 : sep.length * (l.take i).length ≤ sep.length * l.length := Nat.mul_le_mul_left _ (by simp; omega)
 omega
def orDash (l : List (List UInt8)) (sep : List UInt8) : List UInt8 := if l = [] then [45] else Lib.join l sep
theorem p_s_l39Join {N : Nat} (l : List (List UInt8)) (sep : List UInt8) (hN : l.length < N) (hl : l.length ≤ 274877906944) (hb : sep.length * l.length + (l.map List.length).sum ≤ 274877906944) : s_l39Join N l sep = some (orDash l sep) := by
 unfold s_l39Join
 have := loopN_inv (N := N) (step := s_l39Join_L1 N l sep) (fun i => (Lib.join (l.take i) sep, (i : Int))) (n := l.length) (b := Lib.join l sep) (fun i hi => by
  have hx : l[i]? = some l[i] := List.getElem?_eq_getElem hi
  have h1 := join_take_le l sep (i + 1)
  have e3 : l.take (i + 1) = l.take i ++ [l[i]] := by rw [List.take_add_one, hx]; rfl
  unfold s_l39Join_L1
  simp only
  rw [sel_pos (by omega), getI_nat hx, w64_nat (by omega)]
  cases i with
  | zero =>
   rw [sel_neg (by omega), bnd_mk, bnd_mk]
   have e0 : Lib.join (l.take 0) sep = [] := by simp [Lib.join, List.intercalate]
   have e1 : Lib.join (l.take (0 + 1)) sep = l[0] := by rw [e3]; simp [Lib.join, List.intercalate, List.intersperse]
   rw [e1] at h1
   rw [e0, e1, chk_pos (by simp only [List.length_nil]; omega)]
   rfl
  | succ i =>
   have e4 : Lib.join (l.take (i + 1 + 1)) sep = Lib.join (l.take (i + 1)) sep ++ sep ++ l[i + 1] := by
    rw [e3]
    refine join_snoc' _ _ _ ?_
    intro h
    have := congrArg List.length h
    rw [List.length_take, List.length_nil] at this; omega
   have h5 : (Lib.join (l.take (i + 1)) sep ++ sep ++ l[i + 1]).length ≤ sep.length * l.length + (l.map List.length).sum := by rw [← e4]; exact h1
   simp only [List.length_append] at h5
   have h6 : ((i + 1 : Nat) : Int) > 0 := by omega
   rw [sel_pos h6, chk_pos (by omega), bnd_mk, bnd_mk, chk_pos (by simp only [List.length_append]; omega), e4]) (by
  unfold s_l39Join_L1
  simp only
  rw [sel_neg (by omega), List.take_length]) hN
 have e0 : Lib.join (l.take 0) sep = [] := by simp [Lib.join, List.intercalate]
 rw [e0] at this
 rw [show (([] : List UInt8), (0 : Int)) = ([], ((0 : Nat) : Int)) from rfl, this, bnd_mk]
 unfold orDash
 cases l with
 | nil => rfl
 | cons y r =>
  have e : (((y :: r).length : Int) == 0) = false := by simp; omega
  rw [e]; rfl
structure Dims (g : Gx.Grid) (R C : Nat) : Prop where
 r : g.mRows = (R : Int)
 c : g.mCols = (C : Int)
 r2 : 2 ≤ R ∧ R ≤ 6
 c2 : 2 ≤ C ∧ C ≤ 6
 len : g.mCells.length = R * C
theorem GridOk.dims {g : Gx.Grid} (h : GridOk g) : ∃ R C, Dims g R C := by
 refine ⟨g.mRows.toNat, g.mCols.toNat, ?_, ?_, ?_, ?_, ?_⟩ <;> have := h.rows <;> have := h.cols <;> have hl := h.len
 ·omega
 ·omega
 ·omega
 ·omega
 ·have e : ((g.mRows.toNat * g.mCols.toNat : Nat) : Int) = g.mRows * g.mCols := by
   rw [Int.natCast_mul, Int.toNat_of_nonneg (by omega), Int.toNat_of_nonneg (by omega)]
  omega
theorem rc36 {R C : Nat} (h1 : R ≤ 6) (h2 : C ≤ 6) : R * C ≤ 36 := Nat.mul_le_mul h1 h2
theorem tw_spec (p : Nat → Bool) : ∀ K, ∃ m, m = ((List.range K).takeWhile p).length ∧ m ≤ K ∧ (∀ i, i < m → p i = true) ∧ (m < K → p m = false)
 | 0 => ⟨0, rfl, Nat.le_refl _, by simp, by simp⟩
 | K + 1 => by
  obtain ⟨m, e, h1, h2, h3⟩ := tw_spec p K
  rw [List.range_succ]
  by_cases hm : m < K
  ·refine ⟨m, ?_, by omega, h2, fun _ => h3 hm⟩
   have hlt : ((List.range K).takeWhile p).length < (List.range K).length := by rw [← e, List.length_range]; exact hm
   rw [List.takeWhile_append, if_neg (by omega), ← e]
  ·have hK : m = K := by omega
   have hall : ((List.range K).takeWhile p).length = (List.range K).length := by rw [← e, List.length_range, hK]
   rw [List.takeWhile_append, if_pos hall]
   cases hp : p K with
   | true =>
    refine ⟨K + 1, by simp [hp], Nat.le_refl _, fun i hi => ?_, by omega⟩
    by_cases h : i = K
    ·rw [h, hp]
    ·exact h2 i (by omega)
   | false => exact ⟨K, by simp [hp], by omega, fun i hi => h2 i (by omega), fun _ => hp⟩
def dot (g : Gx.Grid) (k : Nat) : Bool := g.mCells.getD k 0 == 46
def dStep (g : Gx.Grid) (down : Bool) : Nat := if down = true then g.mCols.toNat else 1
def dPlace (g : Gx.Grid) (c : Nat) (down : Bool) : Nat := if down = true then c / g.mCols.toNat else c % g.mCols.toNat
def dSide (g : Gx.Grid) (down : Bool) : Nat := if down = true then g.mRows.toNat else g.mCols.toNat
def runN (g : Gx.Grid) (c : Nat) (down : Bool) : Nat :=
 if dot g c = true then
  if 0 < dPlace g c down ∧ dot g (c - dStep g down) = true then 0
  else ((List.range (dSide g down - dPlace g c down)).takeWhile fun k => dot g (c + k * dStep g down)).length
 else 0
theorem dot_byte {g : Gx.Grid} {k : Nat} (h : k < g.mCells.length) : ((byteI g.mCells (k : Int)) == 46) = dot g k := by
 have hx : g.mCells[k]? = some g.mCells[k] := List.getElem?_eq_getElem h
 rw [byteI_nat hx, eq46, dot, List.getD_eq_getElem?_getD, hx]; rfl
theorem in_grid {R C c k : Nat} (down : Bool) (hC : 0 < C) (hc : c < R * C) (h : (if down = true then c / C else c % C) + k < (if down = true then R else C)) : c + k * (if down = true then C else 1) < R * C := by
 cases down with
 | true =>
  simp only [if_true] at h ⊢
  have h1 := Nat.div_add_mod c C
  have h2 := Nat.mod_lt c hC
  have h3 : (c / C + k + 1) * C ≤ R * C := Nat.mul_le_mul_right _ (by omega)
  rw [Nat.succ_mul, Nat.add_mul, Nat.mul_comm (c / C)] at h3
  omega
 | false =>
  simp only [Bool.false_eq_true, if_false] at h ⊢
  have h1 := Nat.div_add_mod c C
  have h4 : c / C < R := by rw [Nat.div_lt_iff_lt_mul hC]; exact hc
  have h3 : (c / C + 1) * C ≤ R * C := Nat.mul_le_mul_right _ (by omega)
  rw [Nat.succ_mul, Nat.mul_comm (c / C)] at h3
  omega
theorem runN_le {g : Gx.Grid} {R C : Nat} (D : Dims g R C) (c : Nat) (down : Bool) : runN g c down ≤ 6 := by
 have e1 : g.mRows.toNat = R := by rw [D.r]; rfl
 have e2 : g.mCols.toNat = C := by rw [D.c]; rfl
 have := D.r2; have := D.c2
 unfold runN
 split
 ·split
  ·omega
  ·obtain ⟨m, e, h1, _⟩ := tw_spec (fun k => dot g (c + k * dStep g down)) (dSide g down - dPlace g c down)
   rw [← e]
   have : dSide g down ≤ 6 := by unfold dSide; split <;> omega
   omega
 ·omega
theorem p_i_run {N : Nat} (hN : 67108864 < N) {g : Gx.Grid} {R C : Nat} (D : Dims g R C) {c : Nat} (hc : c < R * C) (down : Bool) : i_run N g (c : Int) down = some ((runN g c down : Nat) : Int) := by
 have e1 : g.mRows.toNat = R := by rw [D.r]; rfl
 have e2 : g.mCols.toNat = C := by rw [D.c]; rfl
 have h36 := rc36 D.r2.2 D.c2.2
 have hlen := D.len
 have hc0 : ((C : Int) ≠ 0) := by have := D.c2; omega
 unfold i_run
 rw [D.c, chk_pos hc0]
 have et : (sel down (chk ((C : Int) ≠ 0) <| some ((C : Int), w64 (Int.tdiv (c : Int) (C : Int)), g.mRows)) (some ((1 : Int), Int.tmod (c : Int) (C : Int), (C : Int)))) =
   some (((dStep g down : Nat) : Int), ((dPlace g c down : Nat) : Int), ((dSide g down : Nat) : Int)) := by
  unfold dStep dPlace dSide
  rw [e1, e2]
  cases down with
  | true =>
   rw [sel_true, chk_pos hc0, if_pos rfl, if_pos rfl, if_pos rfl, D.r]
   have : Int.tdiv (c : Int) (C : Int) = ((c / C : Nat) : Int) := by rw [Int.tdiv_eq_ediv_of_nonneg (by omega)]; rfl
   have h2 := Nat.div_le_self c C
   rw [this]
   generalize c / C = q at h2
   rw [w64_in (by omega) (by omega)]
  | false =>
   rw [sel_false, if_neg (by simp), if_neg (by simp), if_neg (by simp)]
   have : Int.tmod (c : Int) (C : Int) = ((c % C : Nat) : Int) := by rw [Int.tmod_eq_emod_of_nonneg (by omega)]; rfl
   rw [this]; rfl
 rw [et, bnd_mk, chk_pos ⟨by omega, by omega⟩]
 have hb : ((byteI g.mCells (c : Int)) != 46) = !(dot g c) := by simp only [bne]; rw [dot_byte (by omega)]
 rw [hb, sel_not]
 unfold runN
 cases hd : dot g c with
 | false => rfl
 | true =>
  rw [sel_true, if_pos rfl]
  have hpl : dPlace g c down ≤ c := by
   unfold dPlace; split
   ·exact Nat.div_le_self _ _
   ·exact Nat.mod_le _ _
  have hside : dSide g down ≤ 6 := by unfold dSide; have := D.r2; have := D.c2; split <;> omega
  have hstep : dStep g down ≤ 6 := by unfold dStep; have := D.r2; have := D.c2; split <;> omega
  have hback : 0 < dPlace g c down → dStep g down ≤ c := by
   intro h
   unfold dPlace at h; unfold dStep
   cases down with
   | true =>
    simp only [if_true] at h ⊢
    have := Nat.div_add_mod c g.mCols.toNat
    have h3 : 1 * g.mCols.toNat ≤ (c / g.mCols.toNat) * g.mCols.toNat := Nat.mul_le_mul_right _ h
    rw [Nat.mul_comm (c / _)] at h3
    omega
   | false =>
    simp only [Bool.false_eq_true, if_false] at h ⊢
    have := Nat.mod_le c g.mCols.toNat
    omega
  have loop : bnd (α := Int) (loopN (i_run_L1 N (((dStep g down : Nat) : Int), ((dPlace g c down : Nat) : Int), ((dSide g down : Nat) : Int)) (c : Int) g) N 0) (fun t3 => some t3) =
    some ((((List.range (dSide g down - dPlace g c down)).takeWhile fun k => dot g (c + k * dStep g down)).length : Nat) : Int) := by
   obtain ⟨m, e, h1, h2, h3⟩ := tw_spec (fun k => dot g (c + k * dStep g down)) (dSide g down - dPlace g c down)
   rw [← e]
   have rdx : ∀ k, dPlace g c down + k < dSide g down → c + k * dStep g down < R * C := by
    intro k hk
    have := in_grid (R := R) (C := C) (c := c) (k := k) down (by have := D.c2; omega) hc (by
     unfold dSide dPlace at hk
     rw [e1, e2] at hk
     exact hk)
    unfold dStep
    rw [e2]; exact this
   have key := loopN_inv (N := N) (step := i_run_L1 N (((dStep g down : Nat) : Int), ((dPlace g c down : Nat) : Int), ((dSide g down : Nat) : Int)) (c : Int) g) (fun i => (i : Int)) (n := m) (b := (m : Int)) (fun i hi => by
    have hin := rdx i (by omega)
    have hm6 : i * dStep g down ≤ 6 * 6 := Nat.mul_le_mul (by omega) hstep
    unfold i_run_L1
    simp only
    rw [w64_in (n := ((dPlace g c down : Nat) : Int) + (i : Int)) (by omega) (by omega), sel_pos (by omega)]
    have ew : w64 ((c : Int) + w64 ((i : Int) * ((dStep g down : Nat) : Int))) = ((c + i * dStep g down : Nat) : Int) := by
     rw [← Int.natCast_mul, w64_in (n := ((i * dStep g down : Nat) : Int)) (by omega) (by omega), w64_in (by omega) (by omega)]; rfl
    rw [ew, chk_pos ⟨by omega, by omega⟩, dot_byte (by omega), h2 i hi, sel_true, w64_nat (by omega)]) (by
    unfold i_run_L1
    simp only
    rw [w64_in (n := ((dPlace g c down : Nat) : Int) + (m : Int)) (by omega) (by omega)]
    by_cases hm : m < dSide g down - dPlace g c down
    ·have hin := rdx m (by omega)
     have hm6 : m * dStep g down ≤ 6 * 6 := Nat.mul_le_mul (by omega) hstep
     rw [sel_pos (by omega)]
     have ew : w64 ((c : Int) + w64 ((m : Int) * ((dStep g down : Nat) : Int))) = ((c + m * dStep g down : Nat) : Int) := by
      rw [← Int.natCast_mul, w64_in (n := ((m * dStep g down : Nat) : Int)) (by omega) (by omega), w64_in (by omega) (by omega)]; rfl
     rw [ew, chk_pos ⟨by omega, by omega⟩, dot_byte (by omega), h3 hm, sel_false]
    ·rw [sel_neg (by omega)]) (by omega)
   rw [show (0 : Int) = ((0 : Nat) : Int) from rfl, key]; rfl
  simp only
  by_cases hp : 0 < dPlace g c down
  ·have hb2 := hback hp
   rw [sel_pos (by omega)]
   have ew : w64 ((c : Int) - ((dStep g down : Nat) : Int)) = ((c - dStep g down : Nat) : Int) := by rw [w64_in (by omega) (by omega)]; omega
   rw [ew, chk_pos ⟨by omega, by omega⟩, dot_byte (by omega)]
   cases h4 : dot g (c - dStep g down) with
   | true => rw [sel_true, cutb_rt, if_pos ⟨hp, rfl⟩]; rfl
   | false => rw [sel_false, cutb_nx, if_neg (by simp), loop]
  ·rw [sel_neg (by omega), cutb_nx, if_neg (by omega), loop]
theorem e_run (N : Nat) (g : Gx.Grid) (c : Int) (d : Bool) : s_l8From N g c d = i_run N g c d := rfl
def slotsTo (g : Gx.Grid) : Nat → List Gx.Slot × Nat
 | 0 => ([], 0)
 | c + 1 =>
  let n := if 2 ≤ runN g c false ∨ 2 ≤ runN g c true then (slotsTo g c).2 + 1 else (slotsTo g c).2
  ((slotsTo g c).1 ++ (if 2 ≤ runN g c false then [(⟨(n : Int), false, (c : Int), (runN g c false : Nat)⟩ : Gx.Slot)] else []) ++ (if 2 ≤ runN g c true then [(⟨(n : Int), true, (c : Int), (runN g c true : Nat)⟩ : Gx.Slot)] else []), n)
def slots (g : Gx.Grid) : List Gx.Slot := if isGrid g = true then (slotsTo g g.mCells.length).1 else []
theorem slotsTo_len (g : Gx.Grid) : ∀ c, (slotsTo g c).1.length ≤ 2 * c ∧ (slotsTo g c).2 ≤ c
 | 0 => ⟨Nat.le_refl _, Nat.le_refl _⟩
 | c + 1 => by
  obtain ⟨h1, h2⟩ := slotsTo_len g c
  by_cases ha : 2 ≤ runN g c false <;> by_cases hd : 2 ≤ runN g c true <;> simp [slotsTo, ha, hd] <;> omega
theorem slot_round {N : Nat} (hN : 67108864 < N) {g : Gx.Grid} {R C : Nat} (D : Dims g R C) {c : Nat} (hc : c < R * C) :
  (bnd (i_run N g (c : Int) false) fun x2 =>
  bnd (i_run N g (c : Int) true) fun x3 =>
  bnd (α := Int) (
   sel (decide (x2 ≥ 2))
    (some (w64 (((slotsTo g c).2 : Int) + 1)))
    (sel (decide (x3 ≥ 2))
     (some (w64 (((slotsTo g c).2 : Int) + 1)))
     (some ((slotsTo g c).2 : Int)))) fun t4 =>
  bnd (α := (List (Gx.Slot))) (
   sel (decide (x2 ≥ 2))
    (chk ((slotsTo g c).1.length + ([(⟨t4, false, (c : Int), x2⟩ : Gx.Slot)]).length ≤ 274877906944) <|
    some ((slotsTo g c).1 ++ ([(⟨t4, false, (c : Int), x2⟩ : Gx.Slot)])))
    (some (slotsTo g c).1)) fun t5 =>
  sel (decide (x3 ≥ 2))
   (chk (t5.length + ([(⟨t4, true, (c : Int), x3⟩ : Gx.Slot)]).length ≤ 274877906944) <|
   some (Sum.inl (β := List Gx.Slot) (t5 ++ ([(⟨t4, true, (c : Int), x3⟩ : Gx.Slot)]), t4, w64 ((c : Int) + 1))))
   (some (Sum.inl (β := List Gx.Slot) (t5, t4, w64 ((c : Int) + 1))))) = some (Sum.inl ((slotsTo g (c + 1)).1, (((slotsTo g (c + 1)).2 : Nat) : Int), ((c + 1 : Nat) : Int))) := by
 have h36 := rc36 D.r2.2 D.c2.2
 obtain ⟨l1, l2⟩ := slotsTo_len g c
 rw [p_i_run hN D hc, p_i_run hN D hc, bnd_mk, bnd_mk, w64_nat (by omega), w64_nat (by omega)]
 simp only [slotsTo]
 generalize runN g c false = a
 generalize runN g c true = d
 generalize slotsTo g c = q at l1 l2 ⊢
 by_cases ha : 2 ≤ a <;> by_cases hd : 2 ≤ d
 ·rw [sel_pos (by omega), bnd_mk, sel_pos (by omega), chk_pos (by simp; omega), bnd_mk, sel_pos (by omega), chk_pos (by simp; omega)]
  simp [ha, hd]
 ·rw [sel_pos (by omega), bnd_mk, sel_pos (by omega), chk_pos (by simp; omega), bnd_mk, sel_neg (by omega)]
  simp [ha, hd]
 ·rw [sel_neg (by omega), sel_pos (by omega), bnd_mk, sel_neg (by omega), bnd_mk, sel_pos (by omega), chk_pos (by simp; omega)]
  simp [ha, hd]
 ·rw [sel_neg (by omega), sel_neg (by omega), bnd_mk, sel_neg (by omega), bnd_mk, sel_neg (by omega)]
  simp [ha, hd]
theorem p_i_SlotsOf {N : Nat} (hN : 67108864 < N) (g : Gx.Grid) : i_SlotsOf N g = some (slots g) := by
 unfold i_SlotsOf slots
 rw [p_i_IsGrid hN, bnd_mk, sel_not]
 cases hg : isGrid g with
 | false => rfl
 | true =>
  obtain ⟨R, C, D⟩ := (isGrid_ok hg).dims
  have h36 := rc36 D.r2.2 D.c2.2
  have hlen := D.len
  rw [sel_true, if_pos rfl]
  have := loopN_inv (N := N) (step := i_SlotsOf_L1 N g) (fun i => ((slotsTo g i).1, (((slotsTo g i).2 : Nat) : Int), (i : Int))) (n := g.mCells.length) (b := (slotsTo g g.mCells.length).1) (fun i hi => by
   unfold i_SlotsOf_L1
   simp only
   rw [sel_pos (by omega)]
   exact slot_round hN D (by omega)) (by
   unfold i_SlotsOf_L1
   simp only
   rw [sel_neg (by omega)]) (by omega)
  rw [show (([] : List Gx.Slot), (0 : Int), (0 : Int)) = ((slotsTo g 0).1, (((slotsTo g 0).2 : Nat) : Int), ((0 : Nat) : Int)) from rfl, this, bnd_mk]
theorem p_s_SlotsOf {N : Nat} (hN : 67108864 < N) (g : Gx.Grid) (hl : g.mCells.length ≤ 1048576) : s_SlotsOf N g = some (slots g) := by
 unfold s_SlotsOf slots
 cases hg : isGrid g with
 | false =>
  rw [if_neg (by simp)]
  have : loopN (s_SlotsOf_L1 N g) N ([], 0, 0) = some [] := by
   refine loopN_inv (N := N) (step := s_SlotsOf_L1 N g) (fun _ => ([], 0, 0)) (n := 0) (b := []) (fun i hi => by omega) ?_ (by omega)
   unfold s_SlotsOf_L1
   simp only
   rw [p_s_IsGrid hN, bnd_mk, hg, sel_false, sel_ite]
   split <;> rfl
  rw [this, bnd_mk]
 | true =>
  obtain ⟨R, C, D⟩ := (isGrid_ok hg).dims
  have h36 := rc36 D.r2.2 D.c2.2
  have hlen := D.len
  rw [if_pos rfl]
  have := loopN_inv (N := N) (step := s_SlotsOf_L1 N g) (fun i => ((slotsTo g i).1, (((slotsTo g i).2 : Nat) : Int), (i : Int))) (n := g.mCells.length) (b := (slotsTo g g.mCells.length).1) (fun i hi => by
   unfold s_SlotsOf_L1
   simp only
   rw [sel_pos (by omega), p_s_IsGrid hN, bnd_mk, hg, sel_true]
   simp only [e_run]
   exact slot_round hN D (by omega)) (by
   unfold s_SlotsOf_L1
   simp only
   rw [sel_neg (by omega)]) (by omega)
  rw [show (([] : List Gx.Slot), (0 : Int), (0 : Int)) = ((slotsTo g 0).1, (((slotsTo g 0).2 : Nat) : Int), ((0 : Nat) : Int)) from rfl, this, bnd_mk]
/-- what is known of a slot -/
structure SlotIn (g : Gx.Grid) (R C : Nat) (s : Gx.Slot) (c : Nat) : Prop where
 cell : s.mCell = (c : Int)
 lt : c < R * C
 len : s.mLength = ((runN g c s.mDown : Nat) : Int)
 two : 2 ≤ runN g c s.mDown
theorem slotsTo_in {g : Gx.Grid} {R C : Nat} : ∀ n, n ≤ R * C → ∀ s ∈ (slotsTo g n).1, ∃ c, c < n ∧ SlotIn g R C s c
 | 0, _, s, h => by simp [slotsTo] at h
 | n + 1, hn, s, h => by
  simp only [slotsTo, List.mem_append] at h
  rcases h with (h | h) | h
  ·obtain ⟨c, h1, h2⟩ := slotsTo_in (R := R) (C := C) n (by omega) s h
   exact ⟨c, by omega, h2⟩
  ·split at h
   ·rename_i h2
    simp only [List.mem_cons, List.not_mem_nil, or_false] at h
    subst h
    exact ⟨n, by omega, rfl, by omega, rfl, h2⟩
   ·simp at h
  ·split at h
   ·rename_i h2
    simp only [List.mem_cons, List.not_mem_nil, or_false] at h
    subst h
    exact ⟨n, by omega, rfl, by omega, rfl, h2⟩
   ·simp at h
theorem slots_len (g : Gx.Grid) : (slots g).length ≤ 72 := by
 unfold slots
 split
 ·rename_i h
  obtain ⟨R, C, D⟩ := (isGrid_ok h).dims
  have := (slotsTo_len g g.mCells.length).1
  have := rc36 D.r2.2 D.c2.2
  have := D.len
  omega
 ·simp
theorem dec_len : ∀ (k u : Nat), 1 ≤ k → u < 10 ^ k → (Lib.decDigits u).length ≤ k
 | 0, _, h, _ => by omega
 | k + 1, u, _, hu => by
  rw [Lib.decDigits]
  split
  ·simp
  ·rename_i h
   have hk : 1 ≤ k := by
    cases k with
    | zero => simp at hu; omega
    | succ k => omega
   rw [Nat.pow_succ] at hu
   have := dec_len k (u / 10) hk (by omega)
   simp only [List.length_append, List.length_singleton]; omega
theorem itoa_len {n : Int} (h0 : -9223372036854775808 ≤ n) (h1 : n ≤ 9223372036854775807) : (Lib.itoa n).length ≤ 20 := by
 unfold Lib.itoa
 split
 ·have := dec_len 19 n.natAbs (by decide) (by omega)
  simp only [List.length_cons]; omega
 ·have := dec_len 19 n.toNat (by decide) (by omega)
  omega
theorem digit_b : ∀ d : Fin 10, UInt8.ofInt (IntKind.u8.wrap (w64 (48 + ((d.val : Nat) : Int)))) = UInt8.ofNat (48 + d.val) := by decide
theorem tmod_abs (x : Int) : sel (decide (Int.tmod x 10 < 0)) (some (w64 (0 - Int.tmod x 10))) (some (Int.tmod x 10)) = some ((x.natAbs % 10 : Nat) : Int) := by
 obtain ⟨a, rfl | rfl⟩ := x.eq_nat_or_neg
 ·have e : Int.tmod (a : Int) 10 = ((a % 10 : Nat) : Int) := rfl
  rw [e, sel_neg (by omega), Int.natAbs_natCast]
 ·have e : Int.tmod (-(a : Int)) 10 = -((a % 10 : Nat) : Int) := by rw [Int.neg_tmod]; rfl
  rw [e, Int.natAbs_neg, Int.natAbs_natCast]
  by_cases h : a % 10 = 0
  ·rw [h]; rfl
  ·rw [sel_pos (by omega), w64_in (by omega) (by omega)]
   congr 1; omega
theorem tdiv_abs (x : Int) : (Int.tdiv x 10).natAbs = x.natAbs / 10 := by
 obtain ⟨a, rfl | rfl⟩ := x.eq_nat_or_neg
 ·rfl
 ·rw [Int.neg_tdiv, Int.natAbs_neg, Int.natAbs_neg]; rfl
theorem fi_loop {N : Nat} : ∀ (k M : Nat) (x : Int) (s : List UInt8), k < M → x.natAbs < 10 ^ k → s.length + k ≤ 1000 → -9223372036854775808 ≤ x → x ≤ 9223372036854775807 →
  loopN (s_FormatInt_L1 N) M (s, x) = some (if x = 0 then s else Lib.decDigits x.natAbs ++ s)
 | _, 0, _, _, h, _, _, _, _ => by omega
 | 0, M + 1, x, s, _, hx, _, _, _ => by
  have : x = 0 := by simp at hx; omega
  subst this
  rfl
 | k + 1, M + 1, x, s, hM, hx, hs, h0, h1 => by
  by_cases hz : x = 0
  ·subst hz; rfl
  ·have ha := tdiv_abs x
   have hd : UInt8.ofInt (IntKind.u8.wrap (w64 (48 + ((x.natAbs % 10 : Nat) : Int)))) = UInt8.ofNat (48 + x.natAbs % 10) := digit_b ⟨x.natAbs % 10, Nat.mod_lt _ (by decide)⟩
   have hst : s_FormatInt_L1 N (s, x) = some (.inl ([UInt8.ofNat (48 + x.natAbs % 10)] ++ s, Int.tdiv x 10)) := by
    unfold s_FormatInt_L1
    have e : (x != 0) = true := by simpa using hz
    simp only
    rw [e, sel_true, chk_pos (by decide), tmod_abs, bnd_mk, hd, chk_pos (by simp only [List.length_singleton]; omega), chk_pos (by decide), w64_in (by omega) (by omega)]
   simp only [loopN, hst]
   rw [fi_loop k M _ _ (by omega) (by rw [ha]; rw [Nat.pow_succ] at hx; omega) (by simp only [List.length_append, List.length_singleton]; omega) (by omega) (by omega), if_neg hz, ha]
   congr 1
   by_cases h9 : x.natAbs < 10
   ·rw [if_pos (by omega)]
    conv => rhs; rw [Lib.decDigits]
    rw [dif_pos h9, Nat.mod_eq_of_lt h9]
   ·rw [if_neg (by omega)]
    conv => rhs; rw [Lib.decDigits]
    rw [dif_neg h9, List.append_assoc]
theorem p_s_FormatInt {N : Nat} (hN : 1000 < N) {n : Int} (h0 : -9223372036854775808 ≤ n) (h1 : n ≤ 9223372036854775807) : s_FormatInt N n = some (Lib.itoa n) := by
 unfold s_FormatInt
 by_cases hz : n = 0
 ·subst hz
  have : Lib.itoa 0 = [48] := by unfold Lib.itoa; rw [if_neg (by decide), Lib.decDigits, dif_pos (by decide)]; rfl
  rw [this]; rfl
 ·have e : (n == 0) = false := by simpa using hz
  rw [e, sel_false, fi_loop 19 N n [] (by omega) (by omega) (by decide) h0 h1, bnd_mk, if_neg hz, List.append_nil]
  have hl := dec_len 19 n.natAbs (by decide) (by omega)
  unfold Lib.itoa
  by_cases hn : n < 0
  ·rw [sel_pos hn, chk_pos (by simp only [List.length_singleton]; omega), if_pos hn]; rfl
  ·rw [sel_neg hn, if_neg hn]
   congr 2; omega
theorem p_i_FormatInt {N : Nat} {n : Int} (h0 : -9223372036854775808 ≤ n) (h1 : n ≤ 9223372036854775807) : i_FormatInt N n = some (Lib.itoa n) := by
 unfold i_FormatInt g_strconv_Itoa
 rw [chk_pos ⟨h0, h1⟩]; rfl
theorem p_i_orDash {N : Nat} (l : List (List UInt8)) (sep : List UInt8) (hl : l.length ≤ 274877906944) (hb : sep.length * l.length + (l.map List.length).sum ≤ 274877906944) : i_orDash N l sep = some (orDash l sep) := by
 unfold i_orDash orDash
 cases l with
 | nil => rfl
 | cons y r =>
  have e : (((y :: r).length : Int) == 0) = false := by simp; omega
  have hj := join_le' (y :: r) sep
  rw [e, sel_false]
  unfold g_strings_Join
  rw [chk_pos ⟨hl, by omega⟩]
  rfl
theorem sum_le_mul {α : Type} (f : α → List UInt8) (k : Nat) : ∀ (l : List α), (∀ e ∈ l, (f e).length ≤ k) → ((l.map f).map List.length).sum ≤ k * l.length
 | [], _ => by simp
 | x :: l, h => by
  have h1 := sum_le_mul f k l (fun e he => h e (List.mem_cons_of_mem _ he))
  have h2 := h x List.mem_cons_self
  simp only [List.map_cons, List.sum_cons, List.length_cons, Nat.mul_succ] at h1 ⊢
  omega
theorem slotsTo_num (g : Gx.Grid) : ∀ n, ∀ s ∈ (slotsTo g n).1, 0 ≤ s.mNumber ∧ s.mNumber ≤ (n : Int)
 | 0, s, h => by simp [slotsTo] at h
 | n + 1, s, h => by
  have hl := (slotsTo_len g n).2
  simp only [slotsTo, List.mem_append] at h
  rcases h with (h | h) | h
  ·have := slotsTo_num g n s h
   omega
  ·split at h
   ·simp only [List.mem_cons, List.not_mem_nil, or_false] at h
    subst h
    simp only
    split <;> omega
   ·simp at h
  ·split at h
   ·simp only [List.mem_cons, List.not_mem_nil, or_false] at h
    subst h
    simp only
    split <;> omega
   ·simp at h
theorem slots_in (g : Gx.Grid) : ∀ s ∈ slots g, 0 ≤ s.mNumber ∧ s.mNumber ≤ 1000 ∧ 0 ≤ s.mLength ∧ s.mLength ≤ 1000 := by
 intro s h
 unfold slots at h
 split at h
 ·rename_i hg
  obtain ⟨R, C, D⟩ := (isGrid_ok hg).dims
  have h36 := rc36 D.r2.2 D.c2.2
  have hlen := D.len
  have h1 := slotsTo_num g _ s h
  obtain ⟨c, h2, S⟩ := slotsTo_in (R := R) (C := C) g.mCells.length (by omega) s h
  have h3 := runN_le D c s.mDown
  have h4 := S.len
  omega
 ·simp at h
def slotName (s : Gx.Slot) : List UInt8 := Lib.itoa s.mNumber ++ (if s.mDown = true then [100] else [97])
theorem slotName_len {s : Gx.Slot} (h0 : 0 ≤ s.mNumber) (h1 : s.mNumber ≤ 1000) : (slotName s).length ≤ 21 := by
 have := itoa_len (n := s.mNumber) (by omega) (by omega)
 unfold slotName
 split <;> (simp only [List.length_append, List.length_singleton]; omega)
theorem p_s_SlotName {N : Nat} (hN : 1000 < N) {s : Gx.Slot} (h0 : 0 ≤ s.mNumber) (h1 : s.mNumber ≤ 1000) : s_SlotName N s = some (slotName s) := by
 have hl := itoa_len (n := s.mNumber) (by omega) (by omega)
 unfold s_SlotName slotName
 rw [p_s_FormatInt hN (by omega) (by omega), bnd_mk, chk_pos (by simp only [List.length_singleton]; omega), bnd_mk, chk_pos (by simp only [List.length_singleton]; omega)]
 cases s.mDown <;> rfl
theorem p_i_SlotName {N : Nat} {s : Gx.Slot} (h0 : 0 ≤ s.mNumber) (h1 : s.mNumber ≤ 1000) : i_SlotName N s = some (slotName s) := by
 have hl := itoa_len (n := s.mNumber) (by omega) (by omega)
 unfold i_SlotName slotName
 rw [p_i_FormatInt (by omega) (by omega), bnd_mk, chk_pos (by simp only [List.length_singleton]; omega), bnd_mk, chk_pos (by simp only [List.length_singleton]; omega)]
 cases s.mDown <;> rfl
def slotText (s : Gx.Slot) : List UInt8 := (slotName s ++ [61]) ++ Lib.itoa s.mLength
def fmtSlots (g : Gx.Grid) : List UInt8 := orDash ((slots g).map slotText) [32]
theorem slotText_len (g : Gx.Grid) : ((((slots g).map slotText).map List.length).sum) ≤ 100 * (slots g).length := sum_le_mul _ _ _ fun s hs => by
 obtain ⟨h0, h1, h2, h3⟩ := slots_in g s hs
 have q1 := slotName_len h0 h1
 have q2 := itoa_len (n := s.mLength) (by omega) (by omega)
 unfold slotText
 simp only [List.length_append, List.length_singleton]; omega
theorem p_s_FormatSlots {N : Nat} (hN : 67108864 < N) (g : Gx.Grid) (hl : g.mCells.length ≤ 1048576) : s_FormatSlots N g = some (fmtSlots g) := by
 have h72 := slots_len g
 unfold s_FormatSlots
 rw [p_s_SlotsOf hN g hl, bnd_mk, loop_map (l := slots g) slotText (fi := id) (fun i x a hx hi ha => by
  obtain ⟨h0, h1, h2, h3⟩ := slots_in g x (List.mem_of_getElem? hx)
  have q1 := slotName_len h0 h1
  have q2 := itoa_len (n := x.mLength) (by omega) (by omega)
  unfold s_FormatSlots_L1
  simp only
  rw [sel_pos (by omega), getI_nat hx, bnd_mk, p_s_SlotName (by omega) h0 h1, bnd_mk, chk_pos (by simp only [List.length_singleton]; omega), bnd_mk, p_s_FormatInt (by omega) (by omega) (by omega), bnd_mk,
   chk_pos (by simp only [List.length_append, List.length_singleton]; omega), chk_pos (by simp only [List.length_singleton]; omega)]
  rfl) (fun a => by
  unfold s_FormatSlots_L1
  simp only
  rw [sel_neg (by omega)]; rfl) (by omega) (by omega), bnd_mk]
 have hs := slotText_len g
 simp only [id]
 rw [p_s_l39Join _ _ (by rw [List.length_map]; omega) (by rw [List.length_map]; omega) (by rw [List.length_map]; simp only [List.length_singleton]; omega), bnd_mk]
 rfl
theorem p_i_FormatSlots {N : Nat} (hN : 67108864 < N) (g : Gx.Grid) : i_FormatSlots N g = some (fmtSlots g) := by
 have h72 := slots_len g
 unfold i_FormatSlots
 rw [p_i_SlotsOf hN g, bnd_mk, loop_map (l := slots g) slotText (fi := id) (fun i x a hx hi ha => by
  obtain ⟨h0, h1, h2, h3⟩ := slots_in g x (List.mem_of_getElem? hx)
  have q1 := slotName_len h0 h1
  have q2 := itoa_len (n := x.mLength) (by omega) (by omega)
  unfold i_FormatSlots_L1
  simp only
  rw [sel_pos (by omega), getI_nat hx, bnd_mk, p_i_SlotName h0 h1, bnd_mk, chk_pos (by simp only [List.length_singleton]; omega), p_i_FormatInt (by omega) (by omega), bnd_mk,
   chk_pos (by simp only [List.length_append, List.length_singleton]; omega), chk_pos (by simp only [List.length_singleton]; omega)]
  rfl) (fun a => by
  unfold i_FormatSlots_L1
  simp only
  rw [sel_neg (by omega)]; rfl) (by omega) (by omega), bnd_mk]
 have hs := slotText_len g
 simp only [id]
 rw [p_i_orDash _ _ (by rw [List.length_map]; omega) (by rw [List.length_map]; simp only [List.length_singleton]; omega), bnd_mk]
 rfl
theorem p_FnExactFormatSlots {N : Nat} (hN : 67108864 < N) (g : Gx.Grid) (hok : g.ok) : l_FnExactFormatSlots N g = some true := by
 unfold l_FnExactFormatSlots
 rw [p_szGrid hN g hok (by omega) (by omega), bnd_mk, sel_ite]
 split
 ·rfl
 ·rename_i h
  have hs : g.size ≤ 1048576 := by unfold szF at h; split at h <;> omega
  have hc : g.mCells.length ≤ 1048576 := by unfold Gx.Grid.size at hs; omega
  rw [p_toGrid hN g hs]
  simp only [bnd_mk]
  rw [p_s_FormatSlots hN g hc]
  simp only [bnd_mk]
  rw [p_i_FormatSlots hN g]
  simp only [bnd_mk, bne_self_eq_false, sel_false]
def nbr (C n i j : Nat) : Prop := (0 < i % C ∧ j + 1 = i) ∨ (i % C + 1 < C ∧ j = i + 1) ∨ (C ≤ i ∧ j + C = i) ∨ (i + C < n ∧ j = i + C)
inductive Conn (C n : Nat) (w : Nat → Bool) (a : Nat) : Nat → Prop
 | refl : Conn C n w a a
 | step {b c : Nat} : Conn C n w a b → nbr C n b c → w c = true → Conn C n w a c
theorem Conn.trans {C n : Nat} {w : Nat → Bool} {a b c : Nat} (h1 : Conn C n w a b) (h2 : Conn C n w b c) : Conn C n w a c := by
 induction h2 with
 | refl => exact h1
 | step _ hn hw ih => exact .step ih hn hw
theorem Conn.cons {C n : Nat} {w : Nat → Bool} {a b c : Nat} (hn : nbr C n a b) (hw : w b = true) (h2 : Conn C n w b c) : Conn C n w a c := Conn.trans (.step .refl hn hw) h2
end Lw
end Go.Proofs
