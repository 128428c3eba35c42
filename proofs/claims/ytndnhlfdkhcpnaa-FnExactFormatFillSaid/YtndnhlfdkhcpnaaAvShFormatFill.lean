/- PRINTED BY gen.py (mine): the functions that the law reaches, as plain functions. -/
import Derived.Test.YtndnhlfdkhcpnaaAvLp
import Derived.Lib.Join
namespace Go.Proofs
open Go Go.Av
set_option maxRecDepth 100000
set_option maxHeartbeats 4000000
set_option linter.unusedVariables false
set_option linter.unusedSimpArgs false
namespace Lw
def g_strings_Join (N : Nat) (l : List (List UInt8)) (sep : List UInt8) : Option (List UInt8) := chk (l.length ≤ 274877906944 ∧ (Lib.join l sep).length ≤ 274877906944) (some (Lib.join l sep))
def l_szGrid (N : Nat) (v0 : Gx.Grid) (v1 : Int) : Option (Int) :=
  sel (decide ((w64 (v1 - (v0.mCells.length : Int))) < 0))
    (some (-1))
    (some (w64 (v1 - (v0.mCells.length : Int))))
def l_toGrid (N : Nat) (v0 : Gx.Grid) : Option (Gx.Grid) :=
  some v0
def s_l1In (N : Nat) (v0 : Int) (v1 : Int) (v2 : Int) : Option (Bool) :=
  sel (decide (v0 ≥ v1))
    (some (decide (v0 ≤ v2)))
    (some false)
def s_IsGrid_L1 (N : Nat) (v0 : Gx.Grid) (p1 : Int) : Option (Sum (Int) (Cut (Unit) (Bool))) :=
  sel (decide (p1 < (v0.mCells.length : Int)))
    (chk (0 ≤ p1 ∧ p1 < (v0.mCells.length : Int)) <|
    sel ((byteI v0.mCells p1) != 35)
      (chk (0 ≤ p1 ∧ p1 < (v0.mCells.length : Int)) <|
      sel ((byteI v0.mCells p1) != 46)
        (some (.inr (.rt (false))))
        (some (.inl (w64 (p1 + 1)))))
      (some (.inl (w64 (p1 + 1)))))
    (some (.inr (.nx ())))
def s_IsGrid (N : Nat) (v0 : Gx.Grid) : Option (Bool) :=
  bnd (s_l1In N v0.mRows 2 6) fun x1 =>
  sel (!x1)
    (some false)
    (bnd (s_l1In N v0.mCols 2 6) fun x2 =>
    sel (!x2)
      (some false)
      (sel ((v0.mCells.length : Int) != (w64 (v0.mRows * v0.mCols)))
        (some false)
        (cutb (α := Unit) (
          loopN (s_IsGrid_L1 N v0) N 0) fun t3 =>
        some true)))
def s_IsFill_L1 (N : Nat) (v1 : List UInt8) (v0 : Gx.Grid) (p1 : Int) : Option (Sum (Int) (Cut (Unit) (Bool))) :=
  sel (decide (p1 < (v1.length : Int)))
    (bnd (α := Bool) (
      chk (0 ≤ p1 ∧ p1 < (v1.length : Int)) <|
      sel ((byteI v1 p1) == 63)
        (some true)
        (chk (0 ≤ p1 ∧ p1 < (v1.length : Int)) <|
        sel (decide ((byteI v1 p1) ≥ 97))
          (chk (0 ≤ p1 ∧ p1 < (v1.length : Int)) <|
          some (decide ((byteI v1 p1) ≤ 122)))
          (some false))) fun t2 =>
    chk (0 ≤ p1 ∧ p1 < (v0.mCells.length : Int)) <|
    sel ((byteI v0.mCells p1) == 35)
      (chk (0 ≤ p1 ∧ p1 < (v1.length : Int)) <|
      sel ((byteI v1 p1) != 35)
        (some (.inr (.rt (false))))
        (chk (0 ≤ p1 ∧ p1 < (v0.mCells.length : Int)) <|
        sel ((byteI v0.mCells p1) == 46)
          (sel (!t2)
            (some (.inr (.rt (false))))
            (some (.inl (w64 (p1 + 1)))))
          (some (.inl (w64 (p1 + 1))))))
      (chk (0 ≤ p1 ∧ p1 < (v0.mCells.length : Int)) <|
      sel ((byteI v0.mCells p1) == 46)
        (sel (!t2)
          (some (.inr (.rt (false))))
          (some (.inl (w64 (p1 + 1)))))
        (some (.inl (w64 (p1 + 1))))))
    (some (.inr (.nx ())))
def s_IsFill (N : Nat) (v0 : Gx.Grid) (v1 : List UInt8) : Option (Bool) :=
  bnd (s_IsGrid N v0) fun x1 =>
  sel (!x1)
    (some false)
    (sel ((v1.length : Int) != (v0.mCells.length : Int))
      (some false)
      (cutb (α := Unit) (
        loopN (s_IsFill_L1 N v1 v0) N 0) fun t3 =>
      some true))
def s_l39Join_L1 (N : Nat) (v0 : List (List UInt8)) (v1 : List UInt8) (p1 : (List UInt8) × Int) : Option (Sum ((List UInt8) × Int) ((List UInt8))) :=
  sel (decide (p1.2 < (v0.length : Int)))
    (bnd (α := (List UInt8)) (
      sel (decide (p1.2 > 0))
        (chk (p1.1.length + v1.length ≤ 274877906944) <|
        some (p1.1 ++ v1))
        (some p1.1)) fun t1 =>
    bnd (getI v0 p1.2) fun x2 =>
    chk (t1.length + x2.length ≤ 274877906944) <|
    some (.inl (t1 ++ x2, w64 (p1.2 + 1))))
    (some (.inr (p1.1)))
def s_l39Join (N : Nat) (v0 : List (List UInt8)) (v1 : List UInt8) : Option ((List UInt8)) :=
  bnd (α := (List UInt8)) (
    loopN (s_l39Join_L1 N v0 v1) N (([] : List UInt8), 0)) fun t3 =>
  sel ((v0.length : Int) == 0)
    (some ([45] : List UInt8))
    (some t3)
def s_FormatFill_L1 (N : Nat) (v0 : Gx.Grid) (v1 : List UInt8) (p1 : (List (List UInt8)) × Int) : Option (Sum ((List (List UInt8)) × Int) ((List (List UInt8)))) :=
  sel (decide (p1.2 < v0.mRows))
    (chk (0 ≤ (w64 (p1.2 * v0.mCols)) ∧ (w64 (p1.2 * v0.mCols)) ≤ (w64 ((w64 (p1.2 + 1)) * v0.mCols)) ∧ (w64 ((w64 (p1.2 + 1)) * v0.mCols)) ≤ (v1.length : Int)) <|
    chk (p1.1.length + ([sub v1 (w64 (p1.2 * v0.mCols)) (w64 ((w64 (p1.2 + 1)) * v0.mCols))]).length ≤ 274877906944) <|
    some (.inl (p1.1 ++ ([sub v1 (w64 (p1.2 * v0.mCols)) (w64 ((w64 (p1.2 + 1)) * v0.mCols))]), w64 (p1.2 + 1))))
    (some (.inr (p1.1)))
def s_FormatFill (N : Nat) (v0 : Gx.Grid) (v1 : List UInt8) : Option ((List UInt8)) :=
  bnd (s_IsFill N v0 v1) fun x1 =>
  sel (!x1)
    (some ([] : List UInt8))
    (bnd (α := (List (List UInt8))) (
      loopN (s_FormatFill_L1 N v0 v1) N ([], 0)) fun t2 =>
    bnd (s_l39Join N t2 ([47] : List UInt8)) fun x3 =>
    some x3)
def i_InRange (N : Nat) (v0 : Int) (v1 : Int) (v2 : Int) : Option (Bool) :=
  sel (decide (v1 ≤ v0))
    (some (decide (v0 ≤ v2)))
    (some false)
def i_IsGrid_L1 (N : Nat) (v0 : Gx.Grid) (p1 : Int) : Option (Sum (Int) (Cut (Unit) (Bool))) :=
  sel (decide (p1 < (v0.mCells.length : Int)))
    (chk (0 ≤ p1 ∧ p1 < (v0.mCells.length : Int)) <|
    sel ((byteI v0.mCells p1) != 35)
      (chk (0 ≤ p1 ∧ p1 < (v0.mCells.length : Int)) <|
      sel ((byteI v0.mCells p1) != 46)
        (some (.inr (.rt (false))))
        (some (.inl (w64 (p1 + 1)))))
      (some (.inl (w64 (p1 + 1)))))
    (some (.inr (.nx ())))
def i_IsGrid (N : Nat) (v0 : Gx.Grid) : Option (Bool) :=
  bnd (i_InRange N v0.mRows 2 6) fun x1 =>
  sel (!x1)
    (some false)
    (bnd (i_InRange N v0.mCols 2 6) fun x2 =>
    sel (!x2)
      (some false)
      (sel ((v0.mCells.length : Int) != (w64 (v0.mRows * v0.mCols)))
        (some false)
        (cutb (α := Unit) (
          loopN (i_IsGrid_L1 N v0) N 0) fun t3 =>
        some true)))
def i_isLetter (N : Nat) (v0 : Int) : Option (Bool) :=
  sel (decide (v0 ≥ 97))
    (some (decide (v0 ≤ 122)))
    (some false)
def i_IsFill_L1 (N : Nat) (v1 : List UInt8) (v0 : Gx.Grid) (p1 : Int) : Option (Sum (Int) (Cut (Unit) (Bool))) :=
  sel (decide (p1 < (v1.length : Int)))
    (chk (0 ≤ p1 ∧ p1 < (v0.mCells.length : Int)) <|
    chk (0 ≤ p1 ∧ p1 < (v1.length : Int)) <|
    sel (((byteI v0.mCells p1) == 35) != ((byteI v1 p1) == 35))
      (some (.inr (.rt (false))))
      (chk (0 ≤ p1 ∧ p1 < (v1.length : Int)) <|
      sel ((byteI v1 p1) != 35)
        (chk (0 ≤ p1 ∧ p1 < (v1.length : Int)) <|
        sel ((byteI v1 p1) != 63)
          (chk (0 ≤ p1 ∧ p1 < (v1.length : Int)) <|
          bnd (i_isLetter N (byteI v1 p1)) fun x2 =>
          sel (!x2)
            (some (.inr (.rt (false))))
            (some (.inl (w64 (p1 + 1)))))
          (some (.inl (w64 (p1 + 1)))))
        (some (.inl (w64 (p1 + 1))))))
    (some (.inr (.nx ())))
def i_IsFill (N : Nat) (v0 : Gx.Grid) (v1 : List UInt8) : Option (Bool) :=
  bnd (i_IsGrid N v0) fun x1 =>
  sel (!x1)
    (some false)
    (sel ((v1.length : Int) != (v0.mCells.length : Int))
      (some false)
      (cutb (α := Unit) (
        loopN (i_IsFill_L1 N v1 v0) N 0) fun t3 =>
      some true))
def i_rowsOf_L1 (N : Nat) (v0 : List UInt8) (v1 : Int) (p1 : (List (List UInt8)) × Int) : Option (Sum ((List (List UInt8)) × Int) ((List (List UInt8)))) :=
  sel (decide (p1.2 < (v0.length : Int)))
    (chk (0 ≤ p1.2 ∧ p1.2 ≤ (w64 (p1.2 + v1)) ∧ (w64 (p1.2 + v1)) ≤ (v0.length : Int)) <|
    chk (p1.1.length + ([sub v0 p1.2 (w64 (p1.2 + v1))]).length ≤ 274877906944) <|
    some (.inl (p1.1 ++ ([sub v0 p1.2 (w64 (p1.2 + v1))]), w64 (p1.2 + v1))))
    (some (.inr (p1.1)))
def i_rowsOf (N : Nat) (v0 : List UInt8) (v1 : Int) : Option ((List UInt8)) :=
  bnd (α := (List (List UInt8))) (
    loopN (i_rowsOf_L1 N v0 v1) N ([], 0)) fun t1 =>
  bnd (g_strings_Join N t1 ([47] : List UInt8)) fun x2 =>
  some x2
def i_FormatFill (N : Nat) (v0 : Gx.Grid) (v1 : List UInt8) : Option ((List UInt8)) :=
  bnd (i_IsFill N v0 v1) fun x1 =>
  sel (!x1)
    (some ([] : List UInt8))
    (bnd (i_rowsOf N v1 v0.mCols) fun x2 =>
    some x2)
def l_FnExactFormatFill (N : Nat) (v0 : Gx.Grid) (v1 : List UInt8) : Option (Bool) :=
  sel (decide ((v1.length : Int) > 1048576))
    (some true)
    (bnd (l_szGrid N v0 1048576) fun x1 =>
    sel (decide (x1 < 0))
      (some true)
      (bnd (l_toGrid N v0) fun x2 =>
      bnd (s_FormatFill N x2 v1) fun x3 =>
      bnd (l_toGrid N v0) fun x4 =>
      bnd (i_FormatFill N x4 v1) fun x5 =>
      sel (x5 != x3)
        (some false)
        (some true)))
end Lw
end Go.Proofs
