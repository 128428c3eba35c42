/- plain laws -/
import Derived.Test.YtndnhlfdkhcpnaaAvM1xFormatFill
import Derived.Lib.Join
namespace Go.Proofs
open Go Go.Av
set_option maxRecDepth 100000
set_option maxHeartbeats 4000000
set_option linter.unusedVariables false
set_option linter.unusedSimpArgs false
namespace Lw
theorem join_snoc' (l : List (List UInt8)) (x sep : List UInt8) (h : l ≠ []) : Lib.join (l ++ [x]) sep = Lib.join l sep ++ sep ++ x := by
  unfold Lib.join
  induction l with
  | nil => exact absurd rfl h
  | cons y r ih =>
    cases r with
    | nil => simp [List.intercalate, List.intersperse]
    | cons z r =>
      have := ih (by simp)
      simp only [List.intercalate, List.cons_append, List.intersperse_cons_cons, List.flatten_cons, List.append_assoc] at this ⊢
      rw [this]
theorem join_le' (l : List (List UInt8)) (sep : List UInt8) : (Lib.join l sep).length ≤ sep.length * l.length + (l.map List.length).sum := by
  unfold Lib.join
  induction l with
  | nil => simp [List.intercalate]
  | cons y r ih =>
    cases r with
    | nil => simp [List.intercalate, List.intersperse]
    | cons z r =>
      simp only [List.intercalate, List.intersperse_cons_cons, List.flatten_cons, List.length_append, List.map_cons, List.sum_cons, List.length_cons] at ih ⊢
      have e : sep.length * (r.length + 1 + 1) = sep.length * (r.length + 1) + sep.length := by rw [Nat.mul_add]; omega
      omega
theorem sum_take_le (l : List (List UInt8)) (i : Nat) : ((l.take i).map List.length).sum ≤ (l.map List.length).sum := by
  have e : (l.map List.length).sum = ((l.take i).map List.length).sum + ((l.drop i).map List.length).sum := by rw [← List.sum_append, ← List.map_append, List.take_append_drop]
  omega
theorem join_take_le (l : List (List UInt8)) (sep : List UInt8) (i : Nat) : (Lib.join (l.take i) sep).length ≤ sep.length * l.length + (l.map List.length).sum := by
  have h1 := join_le' (l.take i) sep
  have h2 := sum_take_le l i
  have h3 : sep.length * (l.take i).length ≤ sep.length * l.length := Nat.mul_le_mul_left _ (by simp; omega)
  omega
def orDash (l : List (List UInt8)) (sep : List UInt8) : List UInt8 := if l = [] then [45] else Lib.join l sep
theorem p_s_l39Join {N : Nat} (l : List (List UInt8)) (sep : List UInt8) (hN : l.length < N) (hl : l.length ≤ 274877906944) (hb : sep.length * l.length + (l.map List.length).sum ≤ 274877906944) : s_l39Join N l sep = some (orDash l sep) := by
  unfold s_l39Join
  have := loopN_inv (N := N) (step := s_l39Join_L1 N l sep) (fun i => (Lib.join (l.take i) sep, (i : Int))) (n := l.length) (b := Lib.join l sep) (fun i hi => by
    have hx : l[i]? = some l[i] := List.getElem?_eq_getElem hi
    have h1 := join_take_le l sep (i + 1)
    have e3 : l.take (i + 1) = l.take i ++ [l[i]] := by rw [List.take_add_one, hx]; rfl
    unfold s_l39Join_L1
    simp only
    rw [sel_pos (by omega), getI_nat hx, w64_nat (by omega)]
    cases i with
    | zero =>
      rw [sel_neg (by omega), bnd_mk, bnd_mk]
      have e0 : Lib.join (l.take 0) sep = [] := by simp [Lib.join, List.intercalate]
      have e1 : Lib.join (l.take (0 + 1)) sep = l[0] := by rw [e3]; simp [Lib.join, List.intercalate, List.intersperse]
      rw [e1] at h1
      rw [e0, e1, chk_pos (by simp only [List.length_nil]; omega)]
      rfl
    | succ i =>
      have e4 : Lib.join (l.take (i + 1 + 1)) sep = Lib.join (l.take (i + 1)) sep ++ sep ++ l[i + 1] := by
        rw [e3]
        refine join_snoc' _ _ _ ?_
        intro h
        have := congrArg List.length h
        rw [List.length_take, List.length_nil] at this; omega
      have h5 : (Lib.join (l.take (i + 1)) sep ++ sep ++ l[i + 1]).length ≤ sep.length * l.length + (l.map List.length).sum := by rw [← e4]; exact h1
      simp only [List.length_append] at h5
      have h6 : ((i + 1 : Nat) : Int) > 0 := by omega
      rw [sel_pos h6, chk_pos (by omega), bnd_mk, bnd_mk, chk_pos (by simp only [List.length_append]; omega), e4]) (by
    unfold s_l39Join_L1
    simp only
    rw [sel_neg (by omega), List.take_length]) hN
  have e0 : Lib.join (l.take 0) sep = [] := by simp [Lib.join, List.intercalate]
  rw [e0] at this
  rw [show (([] : List UInt8), (0 : Int)) = ([], ((0 : Nat) : Int)) from rfl, this, bnd_mk]
  unfold orDash
  cases l with
  | nil => rfl
  | cons y r =>
    have e : (((y :: r).length : Int) == 0) = false := by simp; omega
    rw [e]; rfl
def rowsL (f : List UInt8) (C R : Nat) : List (List UInt8) := (List.range R).map fun r => (f.drop (r * C)).take C
theorem rowsL_succ (f : List UInt8) (C R : Nat) : rowsL f C (R + 1) = rowsL f C R ++ [(f.drop (R * C)).take C] := by simp [rowsL, List.range_succ]
theorem rowsL_len (f : List UInt8) (C R : Nat) : (rowsL f C R).length = R := by simp [rowsL]
theorem rowsL_sum (f : List UInt8) (C : Nat) : ∀ R, ((rowsL f C R).map List.length).sum ≤ R * C
  | 0 => by simp [rowsL]
  | R + 1 => by
    have := rowsL_sum f C R
    rw [rowsL_succ, List.map_append, List.sum_append, Nat.succ_mul]
    simp only [List.map_cons, List.map_nil, List.sum_cons, List.sum_nil, List.length_take]
    omega
structure Dims (g : Gx.Grid) (R C : Nat) : Prop where
  r : g.mRows = (R : Int)
  c : g.mCols = (C : Int)
  r2 : 2 ≤ R ∧ R ≤ 6
  c2 : 2 ≤ C ∧ C ≤ 6
  len : g.mCells.length = R * C
theorem GridOk.dims {g : Gx.Grid} (h : GridOk g) : ∃ R C, Dims g R C := by
  refine ⟨g.mRows.toNat, g.mCols.toNat, ?_, ?_, ?_, ?_, ?_⟩ <;> have := h.rows <;> have := h.cols <;> have hl := h.len
  · omega
  · omega
  · omega
  · omega
  · have e : ((g.mRows.toNat * g.mCols.toNat : Nat) : Int) = g.mRows * g.mCols := by
      rw [Int.natCast_mul, Int.toNat_of_nonneg (by omega), Int.toNat_of_nonneg (by omega)]
    omega
theorem mulC {R C r : Nat} (h : r < R) : (r + 1) * C ≤ R * C := Nat.mul_le_mul_right _ h
def fmtFill (g : Gx.Grid) (f : List UInt8) : List UInt8 := if isFill g f = true then Lib.join (rowsL f g.mCols.toNat g.mRows.toNat) [47] else []
theorem rows_ne {f : List UInt8} {C R : Nat} (h : 2 ≤ R) : rowsL f C R ≠ [] := by
  intro e; have := congrArg List.length e; rw [rowsL_len] at this; simp at this; omega
theorem rc36 {R C : Nat} (h1 : R ≤ 6) (h2 : C ≤ 6) : R * C ≤ 36 := Nat.mul_le_mul h1 h2
theorem p_s_FormatFill {N : Nat} (hN : 1048577 < N) (g : Gx.Grid) (f : List UInt8) : s_FormatFill N g f = some (fmtFill g f) := by
  unfold s_FormatFill fmtFill
  rw [p_s_IsFill hN, bnd_mk, sel_not]
  cases hf : isFill g f with
  | false => rfl
  | true =>
    obtain ⟨G, hl⟩ := isFill_ok hf
    obtain ⟨R, C, D⟩ := G.dims
    obtain ⟨dr, dc, r2, c2, len⟩ := D
    have h36 := rc36 r2.2 c2.2
    rw [sel_true, if_pos rfl, dr, dc, Int.toNat_natCast, Int.toNat_natCast]
    have := loopN_inv (N := N) (step := s_FormatFill_L1 N g f) (fun i => (rowsL f C i, (i : Int))) (n := R) (b := rowsL f C R) (fun i hi => by
      have h1 := mulC (C := C) hi
      unfold s_FormatFill_L1
      simp only
      rw [dr, dc, sel_pos (by omega), w64_nat (by omega)]
      have e1 : w64 ((i : Int) * (C : Int)) = ((i * C : Nat) : Int) := by rw [w64_in] <;> rw [← Int.natCast_mul] <;> have := Nat.mul_le_mul (show i ≤ 6 by omega) c2.2 <;> omega
      have e2 : w64 (((i + 1 : Nat) : Int) * (C : Int)) = (((i + 1) * C : Nat) : Int) := by rw [w64_in] <;> rw [← Int.natCast_mul] <;> omega
      have h2 : i * C ≤ (i + 1) * C := Nat.mul_le_mul_right _ (by omega)
      rw [e1, e2, chk_pos ⟨by omega, by omega, by omega⟩, chk_pos (by rw [rowsL_len]; simp; omega), rowsL_succ]
      have e3 : sub f ((i * C : Nat) : Int) (((i + 1) * C : Nat) : Int) = (f.drop (i * C)).take C := by
        unfold sub
        have : ((((i + 1) * C : Nat) : Int) - ((i * C : Nat) : Int)).toNat = C := by rw [Nat.succ_mul]; omega
        rw [this, Int.toNat_natCast]
      rw [e3]) (by
      unfold s_FormatFill_L1
      simp only
      rw [dr, sel_neg (by omega)]) (by omega)
    rw [show (([] : List (List UInt8)), (0 : Int)) = (rowsL f C 0, ((0 : Nat) : Int)) from rfl, this, bnd_mk]
    have hs := rowsL_sum f C R
    rw [p_s_l39Join _ _ (by rw [rowsL_len]; omega) (by rw [rowsL_len]; omega) (by rw [rowsL_len]; simp; omega), bnd_mk]
    unfold orDash
    rw [if_neg (rows_ne r2.1)]
theorem p_i_rowsOf {N : Nat} (hN : 1048577 < N) (f : List UInt8) {R C : Nat} (r2 : 2 ≤ R ∧ R ≤ 6) (c2 : 2 ≤ C ∧ C ≤ 6) (len : f.length = R * C) : i_rowsOf N f (C : Int) = some (Lib.join (rowsL f C R) [47]) := by
  unfold i_rowsOf
  have h36 := rc36 r2.2 c2.2
  have := loopN_inv (N := N) (step := i_rowsOf_L1 N f (C : Int)) (fun i => (rowsL f C i, ((i * C : Nat) : Int))) (n := R) (b := rowsL f C R) (fun i hi => by
    have h1 := mulC (C := C) hi
    have h2 : i * C < (i + 1) * C := by rw [Nat.succ_mul]; omega
    unfold i_rowsOf_L1
    simp only
    have e1 : w64 (((i * C : Nat) : Int) + (C : Int)) = (((i + 1) * C : Nat) : Int) := by rw [Nat.succ_mul] at h1 ⊢; rw [w64_in (by omega) (by omega)]; omega
    rw [sel_pos (by omega), e1, chk_pos ⟨by omega, by omega, by omega⟩, chk_pos (by rw [rowsL_len]; simp; omega), rowsL_succ]
    have e3 : sub f ((i * C : Nat) : Int) (((i + 1) * C : Nat) : Int) = (f.drop (i * C)).take C := by
      unfold sub
      have : ((((i + 1) * C : Nat) : Int) - ((i * C : Nat) : Int)).toNat = C := by rw [Nat.succ_mul]; omega
      rw [this, Int.toNat_natCast]
    rw [e3]) (by
    unfold i_rowsOf_L1
    simp only
    rw [sel_neg (by omega)]) (by omega)
  rw [show (([] : List (List UInt8)), (0 : Int)) = (rowsL f C 0, ((0 * C : Nat) : Int)) from by rw [Nat.zero_mul]; rfl, this, bnd_mk]
  have hs := rowsL_sum f C R
  have hj := join_le' (rowsL f C R) [47]
  rw [rowsL_len] at hj
  unfold g_strings_Join
  rw [chk_pos ⟨by rw [rowsL_len]; omega, by simp at hj; omega⟩]
  rfl
theorem p_i_FormatFill {N : Nat} (hN : 1048577 < N) (g : Gx.Grid) (f : List UInt8) : i_FormatFill N g f = some (fmtFill g f) := by
  unfold i_FormatFill fmtFill
  rw [p_i_IsFill hN, bnd_mk, sel_not]
  cases hf : isFill g f with
  | false => rfl
  | true =>
    obtain ⟨G, hl⟩ := isFill_ok hf
    obtain ⟨R, C, D⟩ := G.dims
    obtain ⟨dr, dc, r2, c2, len⟩ := D
    rw [sel_true, if_pos rfl, dr, dc, Int.toNat_natCast, Int.toNat_natCast, p_i_rowsOf hN f r2 c2 (by omega), bnd_mk]
theorem p_FnExactFormatFill {N : Nat} (hN : 1048577 < N) (g : Gx.Grid) (hok : g.ok) (f : List UInt8) : l_FnExactFormatFill N g f = some true := by
  unfold l_FnExactFormatFill
  rw [sel_ite]
  split
  · rfl
  rw [p_szGrid hN g hok (by omega) (by omega), bnd_mk, sel_ite]
  split
  · rfl
  · rename_i h
    have hs : g.size ≤ 1048576 := by unfold szF at h; split at h <;> omega
    rw [p_toGrid hN g hs]
    simp only [bnd_mk, p_s_FormatFill hN, p_i_FormatFill hN, bne_self_eq_false, sel_false]
end Lw
end Go.Proofs
