/- plain laws -/
import Derived.Test.YtefbbjneleifjaaGreatAvM2xIssueScore
namespace Go.Proofs
open Go Go.Av
set_option maxRecDepth 100000
set_option maxHeartbeats 4000000
set_option linter.unusedVariables false
set_option linter.unusedSimpArgs false
namespace Lw
theorem slots_in {g : Gx.Grid} {R C : Nat} (D : Dims g R C) {s : Gx.Slot} (h : s ∈ slots g) : ∃ c, SlotIn g R C s c := by
  unfold slots at h
  split at h
  · obtain ⟨c, _, h2⟩ := slotsTo_in (g := g) (R := R) (C := C) g.mCells.length (by rw [D.len]; exact Nat.le_refl _) s h
    exact ⟨c, h2⟩
  · cases h
theorem slots_grid {g : Gx.Grid} {s : Gx.Slot} (h : s ∈ slots g) : isGrid g = true := by
  unfold slots at h
  split at h
  · assumption
  · cases h
theorem slots_nodup (g : Gx.Grid) : (slots g).Nodup := by
  unfold slots
  split
  · rename_i h
    obtain ⟨R, C, D⟩ := (isGrid_ok h).dims
    exact slotsTo_nodup (g := g) (R := R) (C := C) _ (by rw [D.len]; exact Nat.le_refl _)
  · exact List.nodup_nil
theorem slots_len (g : Gx.Grid) : (slots g).length ≤ 72 := by
  unfold slots
  split
  · rename_i h
    obtain ⟨R, C, D⟩ := (isGrid_ok h).dims
    have := (slotsTo_len g g.mCells.length).1
    have := rc36 D.r2.2 D.c2.2
    have := D.len
    omega
  · simp
def cellN (g : Gx.Grid) (s : Gx.Slot) (k : Nat) : Nat := s.mCell.toNat + k * dStep g s.mDown
def cellsL (g : Gx.Grid) (s : Gx.Slot) : List Int := (List.range s.mLength.toNat).map fun k => (cellN g s k : Int)
theorem range_get {n i : Nat} {k : Nat} (h : (List.range n)[i]? = some k) : k = i ∧ i < n := by
  have h1 := (List.getElem?_eq_some_iff.1 h)
  obtain ⟨h2, h3⟩ := h1
  rw [List.getElem_range] at h3
  exact ⟨h3.symm, by simpa using h2⟩
theorem SlotIn.bound {g : Gx.Grid} {R C : Nat} (D : Dims g R C) {s : Gx.Slot} {c : Nat} (S : SlotIn g R C s c) {k : Nat} (hk : k < s.mLength.toNat) : cellN g s k < R * C := by
  have h1 : s.mLength.toNat = runN g c s.mDown := by rw [S.len]; rfl
  have h2 : s.mCell.toNat = c := by rw [S.cell]; rfl
  unfold cellN
  rw [h2]
  exact runN_in D S.lt s.mDown (by omega)
theorem slot_cell {g : Gx.Grid} {R C : Nat} (D : Dims g R C) {s : Gx.Slot} {c : Nat} (S : SlotIn g R C s c) {k : Nat} (hk : k < s.mLength.toNat) {st : Int} (hst : st = (dStep g s.mDown : Int)) : w64 (s.mCell + w64 ((k : Int) * st)) = (cellN g s k : Int) := by
  have h := S.bound D hk
  have h36 := rc36 D.r2.2 D.c2.2
  unfold cellN at h ⊢
  have h2 : s.mCell.toNat = c := by rw [S.cell]; rfl
  subst hst
  rw [← Int.natCast_mul, w64_in (n := ((k * dStep g s.mDown : Nat) : Int)) (by omega) (by omega), S.cell, w64_in (by omega) (by omega), Int.toNat_natCast]
  rfl
theorem p_i_cells {N : Nat} (hN : 1048577 < N) {g : Gx.Grid} {R C : Nat} (D : Dims g R C) {s : Gx.Slot} {c : Nat} (S : SlotIn g R C s c) : i_cells N g s = some (cellsL g s) := by
  unfold i_cells
  have e2 : g.mCols.toNat = C := by rw [D.c]; rfl
  have h6 : runN g c s.mDown ≤ 6 := runN_le D c s.mDown
  have et : sel s.mDown (some g.mCols) (some (1 : Int)) = some ((dStep g s.mDown : Nat) : Int) := by
    unfold dStep
    rw [e2]
    cases s.mDown <;> simp [D.c]
  have hl : s.mLength = ((s.mLength.toNat : Nat) : Int) := by rw [S.len]; rfl
  have hl6 : s.mLength.toNat ≤ 6 := by rw [S.len, Int.toNat_natCast]; exact h6
  rw [et, bnd_mk]
  have := loop_map (N := N) (l := List.range s.mLength.toNat) (step := i_cells_L1 N s ((dStep g s.mDown : Nat) : Int)) (fun k => (cellN g s k : Int)) (fi := fun a => a) (fun i k a hk hi ha => by
    obtain ⟨rfl, hk2⟩ := range_get hk
    unfold i_cells_L1
    simp only
    rw [sel_pos (by omega), slot_cell D S hk2 rfl, chk_pos (by simp only [List.length_cons, List.length_nil]; omega)]) (fun a => by
    unfold i_cells_L1
    simp only [List.length_range]
    rw [sel_neg (by omega)]) (by simp; omega) (by simp; omega)
  rw [this, bnd_mk]; rfl
theorem p_i_layout {N : Nat} (hN : 1048577 < N) (g : Gx.Grid) : i_layout N g = some ((slots g).map (cellsL g)) := by
  unfold i_layout
  have h72 := slots_len g
  rw [p_i_SlotsOf hN, bnd_mk]
  have := loop_map (N := N) (l := slots g) (step := i_layout_L1 N (slots g) g) (cellsL g) (fi := fun a => a) (fun i s a hs hi ha => by
    have hm := List.mem_of_getElem? hs
    obtain ⟨R, C, D⟩ := (isGrid_ok (slots_grid hm)).dims
    obtain ⟨c, S⟩ := slots_in D hm
    unfold i_layout_L1
    simp only
    rw [sel_pos (by omega), getI_nat hs, bnd_mk, p_i_cells hN D S, bnd_mk, chk_pos (by simp only [List.length_cons, List.length_nil]; omega)]) (fun a => by
    unfold i_layout_L1
    simp only
    rw [sel_neg (by omega)]) (by omega) (by omega)
  rw [this, bnd_mk]
/-- the bytes of some cells -/
def readL (f : List UInt8) (l : List Int) : List UInt8 := l.map fun c => f.getD c.toNat 0
theorem p_i_readCells {N : Nat} (hN : 1048577 < N) (f : List UInt8) (l : List Int) (hl : l.length ≤ 1048576) (hc : ∀ c ∈ l, 0 ≤ c ∧ c < (f.length : Int)) : i_readCells N f l = some (readL f l) := by
  unfold i_readCells
  have := loop_map (N := N) (l := l) (step := i_readCells_L1 N l f) (fun c => f.getD c.toNat 0) (fi := fun a => a) (fun i c a hs hi ha => by
    have hm := hc c (List.mem_of_getElem? hs)
    unfold i_readCells_L1
    simp only
    rw [sel_pos (by omega), getI_nat hs, bnd_mk, chk_pos hm, chk_pos (by simp only [List.length_cons, List.length_nil]; omega)]) (fun a => by
    unfold i_readCells_L1
    simp only
    rw [sel_neg (by omega)]) (by omega) (by omega)
  rw [this, bnd_mk]; rfl
theorem cellsL_len (g : Gx.Grid) (s : Gx.Slot) : (cellsL g s).length = s.mLength.toNat := by simp [cellsL]
theorem cellsL_in {g : Gx.Grid} {R C : Nat} (D : Dims g R C) {s : Gx.Slot} {c : Nat} (S : SlotIn g R C s c) : ∀ x ∈ cellsL g s, 0 ≤ x ∧ x < ((R * C : Nat) : Int) := by
  intro x hx
  obtain ⟨k, hk, rfl⟩ := List.mem_map.1 hx
  have := S.bound D (k := k) (by simpa using hk)
  omega
theorem SlotIn.small {g : Gx.Grid} {R C : Nat} (D : Dims g R C) {s : Gx.Slot} {c : Nat} (S : SlotIn g R C s c) : s.mLength.toNat ≤ 6 := by
  rw [S.len, Int.toNat_natCast]; exact runN_le D c s.mDown
def patterns (g : Gx.Grid) (f : List UInt8) : List (List UInt8) := if isFill g f = true then (slots g).map fun s => readL f (cellsL g s) else []
theorem p_i_patterns {N : Nat} (hN : 1048577 < N) (g : Gx.Grid) (f : List UInt8) : i_patterns N g f = some (patterns g f) := by
  unfold i_patterns patterns
  rw [p_i_IsFill hN, bnd_mk, sel_not]
  cases hf : isFill g f with
  | false => rfl
  | true =>
    obtain ⟨G, hl⟩ := isFill_ok hf
    obtain ⟨R, C, D⟩ := G.dims
    have h36 := rc36 D.r2.2 D.c2.2
    have h72 := slots_len g
    have hlen := D.len
    rw [sel_true, if_pos rfl, p_i_layout hN, bnd_mk]
    have := loop_map (N := N) (l := (slots g).map (cellsL g)) (step := i_patterns_L1 N ((slots g).map (cellsL g)) f) (readL f) (fi := fun a => a) (fun i l a hs hi ha => by
      obtain ⟨s, hs1, rfl⟩ := List.mem_map.1 (List.mem_of_getElem? hs)
      obtain ⟨c, S⟩ := slots_in D hs1
      have h6 := S.small D
      simp only [List.length_map] at hi
      unfold i_patterns_L1
      simp only
      rw [sel_pos (by simp; omega), getI_nat hs, bnd_mk, p_i_readCells hN f _ (by rw [cellsL_len]; omega) (fun x hx => by have := cellsL_in D S x hx; omega), bnd_mk, chk_pos (by simp only [List.length_cons, List.length_nil]; omega)]) (fun a => by
      unfold i_patterns_L1
      simp only
      rw [sel_neg (by omega)]) (by simp; omega) (by simp; omega)
    rw [this, bnd_mk, List.map_map]; rfl
theorem p_s_CellsOf_loop {N : Nat} (hN : 1048577 < N) {g : Gx.Grid} {R C : Nat} (D : Dims g R C) {s : Gx.Slot} {c : Nat} (S : SlotIn g R C s c) (a : List Int) (ha : a.length ≤ 1048576) : loopN (s_CellsOf_L2 N s g) N (a, 0) = some (a ++ cellsL g s) := by
  have h6 := S.small D
  have hl : s.mLength = ((s.mLength.toNat : Nat) : Int) := by rw [S.len]; rfl
  have e2 : g.mCols.toNat = C := by rw [D.c]; rfl
  have key := loop_fold (N := N) (step := s_CellsOf_L2 N s g) (fun i a => (a, (i : Int))) (List.range s.mLength.toNat) (fun (a : List Int) (k : Nat) => a ++ [(cellN g s k : Int)]) (fun a => a) (fun i b => b.length ≤ 1048576 + i) (a := a) ha (fun b hb => by
    unfold s_CellsOf_L2
    simp only [List.length_range]
    rw [sel_neg (by omega)]) (fun i b k hb hk hi => by
    obtain ⟨rfl, hk2⟩ := range_get hk
    refine ⟨?_, by simp; omega⟩
    unfold s_CellsOf_L2
    simp only
    rw [sel_pos (by omega), w64_nat (by omega)]
    cases hd : s.mDown with
    | true =>
      have e : w64 (s.mCell + w64 ((k : Int) * g.mCols)) = (cellN g s k : Int) := slot_cell D S hk2 (by unfold dStep; rw [hd, if_pos rfl, e2, D.c])
      rw [sel_true, e, chk_pos (by simp only [List.length_cons, List.length_nil]; omega)]
    | false =>
      have e : w64 (s.mCell + (k : Int)) = (cellN g s k : Int) := by
        have := slot_cell D S hk2 (st := 1) (by unfold dStep; rw [hd, if_neg (by simp)]; rfl)
        rw [Int.mul_one, w64_in (n := (k : Int)) (by omega) (by omega)] at this
        exact this
      rw [sel_false, e, chk_pos (by simp only [List.length_cons, List.length_nil]; omega)]) (by simp; omega)
  rw [show (a, (0 : Int)) = (a, ((0 : Nat) : Int)) from rfl, key, foldl_snoc]
  rfl
theorem slot_beq (a b : Gx.Slot) : (a.mNumber == b.mNumber && (a.mDown == b.mDown && (a.mCell == b.mCell && (a.mLength == b.mLength && true)))) = decide (a = b) := by
  rw [Bool.eq_iff_iff]
  simp only [Bool.and_eq_true, beq_iff_eq, and_true, decide_eq_true_eq]
  constructor
  · rintro ⟨h1, h2, h3, h4⟩; cases a; cases b; simp_all
  · rintro rfl; simp
theorem p_s_CellsOf {N : Nat} (hN : 1048577 < N) {g : Gx.Grid} {R C : Nat} (D : Dims g R C) (hlg : g.mCells.length ≤ 1048576) {s : Gx.Slot} (hs : s ∈ slots g) : s_CellsOf N g s = some (cellsL g s) := by
  obtain ⟨c, S⟩ := slots_in D hs
  have h72 := slots_len g
  have h6 := S.small D
  unfold s_CellsOf
  rw [p_s_SlotsOf hN g hlg, bnd_mk]
  -- before the slot: nothing; behind it: its cells
  have nd := slots_nodup g
  have key := loopN_list (N := N) (step := s_CellsOf_L1 N (slots g) s g) (fun i a => (a, (i : Int))) (slots g) (fun r (a : List Int) => if s ∈ r then cellsL g s else a) (fun i a => if s ∈ (slots g).drop i then a = [] else a = cellsL g s) (a := []) (by rw [List.drop_zero, if_pos hs])
    (fun a ha => by
      unfold s_CellsOf_L1
      simp only
      rw [sel_neg (by omega), if_neg (by simp)])
    (fun i a x r ha hx hr hi => by
      left
      have hd : (slots g).drop i = x :: r := by rw [← hr]; rw [List.drop_eq_getElem_cons hi]; rw [List.getElem?_eq_getElem hi] at hx; cases hx; rfl
      have ndr : (x :: r).Nodup := by rw [← hd]; exact nd.sublist (List.drop_sublist _ _)
      rw [hd] at ha
      unfold s_CellsOf_L1
      simp only
      rw [sel_pos (by omega), getI_nat hx, bnd_mk, slot_beq, sel_not, w64_nat (by omega)]
      by_cases e : x = s
      · subst e
        rw [if_pos (by simp)] at ha
        subst ha
        have hn : x ∉ r := (List.nodup_cons.1 ndr).1
        rw [sel_pos rfl, p_s_CellsOf_loop hN D S [] (by simp), bnd_mk, List.nil_append]
        refine ⟨_, rfl, by rw [hr, if_neg hn], by rw [if_pos (by simp), if_neg hn]⟩
      · rw [sel_neg e, bnd_mk]
        refine ⟨_, rfl, ?_, ?_⟩
        · rw [hr]
          simp only [List.mem_cons, Ne.symm e, false_or] at ha
          exact ha
        · have : (s ∈ x :: r) = (s ∈ r) := by simp only [List.mem_cons, Ne.symm e, false_or]
          simp only [this]) (by omega)
  rw [show (([] : List Int), (0 : Int)) = ([], ((0 : Nat) : Int)) from rfl, key, if_pos hs, bnd_mk]
end Lw
end Go.Proofs
