/- plain laws -/
import Derived.Test.YtefbbjneleifjaaGreatAvPhIssueScore
namespace Go.Proofs
open Go Go.Av
set_option maxRecDepth 100000
set_option maxHeartbeats 4000000
set_option linter.unusedVariables false
set_option linter.unusedSimpArgs false
namespace Lw
theorem p_s_l1In (N : Nat) (n a b : Int) : s_l1In N n a b = some (decide (a ≤ n ∧ n ≤ b)) := by
  unfold s_l1In
  rw [sel_ite]
  split <;> simp <;> omega
theorem p_i_InRange (N : Nat) (n a b : Int) : i_InRange N n a b = some (decide (a ≤ n ∧ n ≤ b)) := by
  unfold i_InRange
  rw [sel_ite]
  split <;> simp <;> omega
/-- a lower-case letter -/
def isLet (c : UInt8) : Bool := decide (97 ≤ c.toNat ∧ c.toNat ≤ 122)
theorem p_i_isLetter (N : Nat) (c : UInt8) : i_isLetter N (c.toNat : Int) = some (isLet c) := by
  unfold i_isLetter isLet
  rw [sel_ite]
  split
  · rw [Option.some.injEq, decide_eq_decide]; omega
  · rw [Option.some.injEq, eq_comm, decide_eq_false_iff_not]; omega
def okCell (c : UInt8) : Bool := c == 35 || c == 46
def isGrid (g : Gx.Grid) : Bool := decide (2 ≤ g.mRows ∧ g.mRows ≤ 6) && decide (2 ≤ g.mCols ∧ g.mCols ≤ 6) && decide ((g.mCells.length : Int) = g.mRows * g.mCols) && g.mCells.all okCell
theorem grid_small {g : Gx.Grid} (h1 : 2 ≤ g.mRows ∧ g.mRows ≤ 6) (h2 : 2 ≤ g.mCols ∧ g.mCols ≤ 6) : 0 ≤ g.mRows * g.mCols ∧ g.mRows * g.mCols ≤ 36 :=
  ⟨Int.mul_nonneg (by omega) (by omega), Int.le_trans (Int.mul_le_mul h1.2 h2.2 (by omega) (by omega)) (by omega)⟩
theorem cell_ne (c : UInt8) : ((c.toNat : Int) != 35) = (c != 35) := by simp only [bne]; rw [show (35 : Int) = ((35 : Nat) : Int) from rfl, u8_eq (by omega)]; rfl
theorem cell_ne' (c : UInt8) : ((c.toNat : Int) != 46) = (c != 46) := by simp only [bne]; rw [show (46 : Int) = ((46 : Nat) : Int) from rfl, u8_eq (by omega)]; rfl
theorem cells_loop {N : Nat} (g : Gx.Grid) (h : g.mCells.length ≤ 36) (hN : 1048577 < N) {step : Int → Option (Sum Int (Cut Unit Bool))}
    (hs : ∀ p, step p = sel (decide (p < (g.mCells.length : Int))) (chk (0 ≤ p ∧ p < (g.mCells.length : Int)) <| sel ((byteI g.mCells p) != 35) (chk (0 ≤ p ∧ p < (g.mCells.length : Int)) <| sel ((byteI g.mCells p) != 46) (some (.inr (.rt false))) (some (.inl (w64 (p + 1))))) (some (.inl (w64 (p + 1))))) (some (.inr (.nx ())))) :
    cutb (loopN step N 0) (fun _ => some true) = some (g.mCells.all okCell) := by
  rw [loop_all (l := g.mCells) okCell (b := false) (fun i x hx hi => by
    rw [hs, sel_pos (by omega), chk_pos ⟨by omega, by omega⟩, chk_pos ⟨by omega, by omega⟩, byteI_nat hx, cell_ne, cell_ne']
    unfold okCell
    by_cases h1 : x = 35
    · subst h1; rfl
    · by_cases h2 : x = 46
      · subst h2; rfl
      · have e1 : (x != 35) = true := by simpa using h1
        have e2 : (x != 46) = true := by simpa using h2
        rw [e1, e2]; simp [h1, h2]) (by rw [hs, sel_neg (by omega)]) (by omega) (by omega)]
  split <;> simp_all
theorem p_s_IsGrid {N : Nat} (hN : 1048577 < N) (g : Gx.Grid) : s_IsGrid N g = some (isGrid g) := by
  unfold s_IsGrid isGrid
  rw [p_s_l1In, p_s_l1In]
  simp only [bnd_mk, sel_not, sel_ite]
  split
  · rename_i h1
    split
    · rename_i h2
      have hm := grid_small h1 h2
      rw [w64_in (by omega) (by omega)]
      by_cases h3 : (g.mCells.length : Int) = g.mRows * g.mCols
      · have e : ((g.mCells.length : Int) != g.mRows * g.mCols) = false := by simpa using h3
        rw [e, sel_false, cells_loop g (by omega) hN (step := s_IsGrid_L1 N g) (fun p => rfl)]
        simp [h1, h2, h3]
      · have e : ((g.mCells.length : Int) != g.mRows * g.mCols) = true := by simpa using h3
        rw [e]; simp [h3]
    · rename_i h2; simp [h2]
  · rename_i h1; simp [h1]
theorem p_i_IsGrid {N : Nat} (hN : 1048577 < N) (g : Gx.Grid) : i_IsGrid N g = some (isGrid g) := by
  unfold i_IsGrid isGrid
  rw [p_i_InRange, p_i_InRange]
  simp only [bnd_mk, sel_not, sel_ite]
  split
  · rename_i h1
    split
    · rename_i h2
      have hm := grid_small h1 h2
      rw [w64_in (by omega) (by omega)]
      by_cases h3 : (g.mCells.length : Int) = g.mRows * g.mCols
      · have e : ((g.mCells.length : Int) != g.mRows * g.mCols) = false := by simpa using h3
        rw [e, sel_false, cells_loop g (by omega) hN (step := i_IsGrid_L1 N g) (fun p => rfl)]
        simp [h1, h2, h3]
      · have e : ((g.mCells.length : Int) != g.mRows * g.mCols) = true := by simpa using h3
        rw [e]; simp [h3]
    · rename_i h2; simp [h2]
  · rename_i h1; simp [h1]
structure GridOk (g : Gx.Grid) : Prop where
  rows : 2 ≤ g.mRows ∧ g.mRows ≤ 6
  cols : 2 ≤ g.mCols ∧ g.mCols ≤ 6
  len : (g.mCells.length : Int) = g.mRows * g.mCols
  cells : ∀ c ∈ g.mCells, c = 35 ∨ c = 46
theorem isGrid_ok {g : Gx.Grid} (h : isGrid g = true) : GridOk g := by
  unfold isGrid at h
  simp only [Bool.and_eq_true, decide_eq_true_eq, List.all_eq_true] at h
  refine ⟨h.1.1.1, h.1.1.2, h.1.2, fun c hc => ?_⟩
  have := h.2 c hc
  simpa [okCell] using this
theorem GridOk.small {g : Gx.Grid} (h : GridOk g) : g.mCells.length ≤ 36 := by have := grid_small h.rows h.cols; have := h.len; omega
def okFill (a b : UInt8) : Bool := if a = 35 then b == 35 else b == 63 || isLet b
def isFill (g : Gx.Grid) (f : List UInt8) : Bool := isGrid g && decide (f.length = g.mCells.length) && allI (fun i b => okFill (g.mCells.getD i 0) b) f 0
theorem fillBranch (a b : UInt8) (ha : a = 35 ∨ a = 46) : okFill a b = if a = 35 then b == 35 else (b == 63 || isLet b) := rfl
theorem letQ (b : UInt8) : (sel ((b.toNat : Int) == 63) (some true) (sel (decide ((b.toNat : Int) ≥ 97)) (some (decide ((b.toNat : Int) ≤ 122))) (some false))) = some (b == 63 || isLet b) := by
  rw [show (63 : Int) = ((63 : Nat) : Int) from rfl, u8_eq (by omega)]
  by_cases h : b = 63
  · subst h; rfl
  · have e : (b == UInt8.ofNat 63) = false := by simpa using h
    have e' : (b == 63) = false := by simpa using h
    rw [e, e', sel_false, sel_ite, Bool.false_or]
    unfold isLet
    split
    · rw [Option.some.injEq, decide_eq_decide]; omega
    · rw [Option.some.injEq, eq_comm, decide_eq_false_iff_not]; omega
theorem ne35 (b : UInt8) : ((b.toNat : Int) != 35) = (b != 35) := cell_ne b
theorem eq35 (b : UInt8) : ((b.toNat : Int) == 35) = (b == 35) := by rw [show (35 : Int) = ((35 : Nat) : Int) from rfl, u8_eq (by omega)]; rfl
theorem eq46 (b : UInt8) : ((b.toNat : Int) == 46) = (b == 46) := by rw [show (46 : Int) = ((46 : Nat) : Int) from rfl, u8_eq (by omega)]; rfl
theorem eq63 (b : UInt8) : ((b.toNat : Int) == 63) = (b == 63) := by rw [show (63 : Int) = ((63 : Nat) : Int) from rfl, u8_eq (by omega)]; rfl
theorem ne63 (b : UInt8) : ((b.toNat : Int) != 63) = (b != 63) := by simp only [bne, eq63]
theorem p_s_IsFill {N : Nat} (hN : 1048577 < N) (g : Gx.Grid) (f : List UInt8) : s_IsFill N g f = some (isFill g f) := by
  unfold s_IsFill isFill
  rw [p_s_IsGrid hN, bnd_mk, sel_not]
  cases hg : isGrid g with
  | false => rfl
  | true =>
    have G := isGrid_ok hg
    have hs := G.small
    rw [sel_true, Bool.true_and]
    by_cases hl : f.length = g.mCells.length
    · have e : ((f.length : Int) != (g.mCells.length : Int)) = false := by simp [hl]
      rw [e, sel_false, decide_eq_true hl, Bool.true_and, loop_allI (l := f) (γ := Unit) (fun i b => okFill (g.mCells.getD i 0) b) (b := false) (fun i b hb hi => by
        have ha : g.mCells[i]? = some g.mCells[i] := List.getElem?_eq_getElem (by omega)
        have hd : g.mCells.getD i 0 = g.mCells[i] := by rw [List.getD_eq_getElem?_getD, ha]; rfl
        have hab := G.cells _ (List.getElem_mem (n := i) (by omega))
        generalize g.mCells[i] = a at ha hd hab
        unfold s_IsFill_L1
        rw [sel_pos (by omega)]
        have q1 : 0 ≤ (i : Int) ∧ (i : Int) < (f.length : Int) := ⟨by omega, by omega⟩
        have q2 : 0 ≤ (i : Int) ∧ (i : Int) < (g.mCells.length : Int) := ⟨by omega, by omega⟩
        simp only [chk_pos q1, chk_pos q2]
        rw [byteI_nat hb, byteI_nat ha, letQ, bnd_mk, eq35, ne35, eq46, hd, fillBranch a b hab]
        rcases hab with rfl | rfl
        · by_cases h : b = 35
          · subst h; rfl
          · have e1 : (b != 35) = true := by simpa using h
            have e2 : (b == 35) = false := by simpa using h
            rw [e1]; simp [e2]
        · cases hq : (b == 63 || isLet b) <;> simp) (by unfold s_IsFill_L1; rw [sel_neg (by omega)]) (by omega) (by omega)]
      split <;> simp_all
    · have e : ((f.length : Int) != (g.mCells.length : Int)) = true := by simp; omega
      rw [e, decide_eq_false hl]; rfl
theorem p_i_IsFill {N : Nat} (hN : 1048577 < N) (g : Gx.Grid) (f : List UInt8) : i_IsFill N g f = some (isFill g f) := by
  unfold i_IsFill isFill
  rw [p_i_IsGrid hN, bnd_mk, sel_not]
  cases hg : isGrid g with
  | false => rfl
  | true =>
    have G := isGrid_ok hg
    have hs := G.small
    rw [sel_true, Bool.true_and]
    by_cases hl : f.length = g.mCells.length
    · have e : ((f.length : Int) != (g.mCells.length : Int)) = false := by simp [hl]
      rw [e, sel_false, decide_eq_true hl, Bool.true_and, loop_allI (l := f) (γ := Unit) (fun i b => okFill (g.mCells.getD i 0) b) (b := false) (fun i b hb hi => by
        have ha : g.mCells[i]? = some g.mCells[i] := List.getElem?_eq_getElem (by omega)
        have hd : g.mCells.getD i 0 = g.mCells[i] := by rw [List.getD_eq_getElem?_getD, ha]; rfl
        have hab := G.cells _ (List.getElem_mem (n := i) (by omega))
        generalize g.mCells[i] = a at ha hd hab
        unfold i_IsFill_L1
        rw [sel_pos (by omega)]
        have q1 : 0 ≤ (i : Int) ∧ (i : Int) < (f.length : Int) := ⟨by omega, by omega⟩
        have q2 : 0 ≤ (i : Int) ∧ (i : Int) < (g.mCells.length : Int) := ⟨by omega, by omega⟩
        simp only [chk_pos q1, chk_pos q2]
        rw [byteI_nat hb, byteI_nat ha, p_i_isLetter, bnd_mk, eq35, eq35, ne35, ne63, hd, fillBranch a b hab]
        rcases hab with rfl | rfl
        · by_cases h : b = 35
          · subst h; rfl
          · have e2 : (b == 35) = false := by simpa using h
            rw [e2]; simp
        · by_cases h : b = 35
          · subst h; rfl
          · have e1 : (b != 35) = true := by simpa using h
            have e2 : (b == 35) = false := by simpa using h
            rw [e1, e2]
            by_cases h3 : b = 63
            · subst h3; rfl
            · have e3 : (b != 63) = true := by simpa using h3
              have e4 : (b == 63) = false := by simpa using h3
              rw [e3, e4]
              cases isLet b <;> simp) (by unfold i_IsFill_L1; rw [sel_neg (by omega)]) (by omega) (by omega)]
      split <;> simp_all
    · have e : ((f.length : Int) != (g.mCells.length : Int)) = true := by simp; omega
      rw [e, decide_eq_false hl]; rfl
/-- what a fill is told by -/
theorem isFill_ok {g : Gx.Grid} {f : List UInt8} (h : isFill g f = true) : GridOk g ∧ f.length = g.mCells.length := by
  unfold isFill at h
  simp only [Bool.and_eq_true, decide_eq_true_eq] at h
  exact ⟨isGrid_ok h.1.1, h.1.2⟩
end Lw
end Go.Proofs
