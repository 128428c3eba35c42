/- PRINTED BY gen.py (mine): the functions that the law reaches, as plain functions. -/
import Derived.Test.YtgmppfmemimkkaaDoorAvLp
import Derived.Lib.Join
namespace Go.Proofs
open Go Go.Av
set_option maxRecDepth 100000
set_option maxHeartbeats 40000000
set_option linter.unusedVariables false
set_option linter.unusedSimpArgs false
namespace Lw
def g_strconv_Itoa (N : Nat) (n : Int) : Option (List UInt8) := chk (-9223372036854775808 ≤ n ∧ n ≤ 9223372036854775807) (some (Lib.itoa n))
def g_strings_Join (N : Nat) (l : List (List UInt8)) (sep : List UInt8) : Option (List UInt8) := chk (l.length ≤ 274877906944 ∧ (Lib.join l sep).length ≤ 274877906944) (some (Lib.join l sep))
def l_szGrid (N : Nat) (v0 : Gx.Grid) (v1 : Int) : Option (Int) :=
 sel (decide ((w64 (v1 - (v0.mCells.length : Int))) < 0))
  (some (-1))
  (some (w64 (v1 - (v0.mCells.length : Int))))
def l_toGrid (N : Nat) (v0 : Gx.Grid) : Option (Gx.Grid) :=
 some v0
def s_l1In (N : Nat) (v0 : Int) (v1 : Int) (v2 : Int) : Option (Bool) :=
 sel (decide (v0 ≥ v1))
  (some (decide (v0 ≤ v2)))
  (some false)
def s_IsGrid_L1 (N : Nat) (v0 : Gx.Grid) (p1 : Int) : Option (Sum (Int) (Cut (Unit) (Bool))) :=
 sel (decide (p1 < (v0.mCells.length : Int)))
  (chk (0 ≤ p1 ∧ p1 < (v0.mCells.length : Int)) <|
  sel ((byteI v0.mCells p1) != 35)
   (chk (0 ≤ p1 ∧ p1 < (v0.mCells.length : Int)) <|
   sel ((byteI v0.mCells p1) != 46)
    (some (.inr (.rt (false))))
    (some (.inl (w64 (p1 + 1)))))
   (some (.inl (w64 (p1 + 1)))))
  (some (.inr (.nx ())))
def s_IsGrid (N : Nat) (v0 : Gx.Grid) : Option (Bool) :=
 bnd (s_l1In N v0.mRows 2 6) fun x1 =>
 sel (!x1)
  (some false)
  (bnd (s_l1In N v0.mCols 2 6) fun x2 =>
  sel (!x2)
   (some false)
   (sel ((v0.mCells.length : Int) != (w64 (v0.mRows * v0.mCols)))
    (some false)
    (cutb (α := Unit) (
     loopN (s_IsGrid_L1 N v0) N 0) fun t3 =>
    some true)))
def s_l8From_L1 (N : Nat) (t1 : Int × Int × Int) (v1 : Int) (v0 : Gx.Grid) (p1 : Int) : Option (Sum (Int) (Int)) :=
 sel (decide ((w64 (t1.2.1 + p1)) < t1.2.2))
  (chk (0 ≤ (w64 (v1 + (w64 (p1 * t1.1)))) ∧ (w64 (v1 + (w64 (p1 * t1.1)))) < (v0.mCells.length : Int)) <|
  sel ((byteI v0.mCells (w64 (v1 + (w64 (p1 * t1.1))))) == 46)
   (some (.inl (w64 (p1 + 1))))
   (some (.inr (p1))))
  (some (.inr (p1)))
def s_l8From (N : Nat) (v0 : Gx.Grid) (v1 : Int) (v2 : Bool) : Option (Int) :=
 chk ((v0.mCols : Int) ≠ 0) <|
 bnd (α := Int × Int × Int) (
  sel (v2)
   (chk ((v0.mCols : Int) ≠ 0) <|
   some (v0.mCols, w64 (Int.tdiv v1 v0.mCols), v0.mRows))
   (some (1, Int.tmod v1 v0.mCols, v0.mCols))) fun t1 =>
 cutb (α := Unit) (
  chk (0 ≤ v1 ∧ v1 < (v0.mCells.length : Int)) <|
  sel ((byteI v0.mCells v1) != 46)
   (some (.rt (0)))
   (sel (decide (t1.2.1 > 0))
    (chk (0 ≤ (w64 (v1 - t1.1)) ∧ (w64 (v1 - t1.1)) < (v0.mCells.length : Int)) <|
    sel ((byteI v0.mCells (w64 (v1 - t1.1))) == 46)
     (some (.rt (0)))
     (some (.nx ())))
    (some (.nx ())))) fun t2 =>
 bnd (α := Int) (
  loopN (s_l8From_L1 N t1 v1 v0) N 0) fun t3 =>
 some t3
def s_SlotsOf_L1 (N : Nat) (v0 : Gx.Grid) (p1 : (List (Gx.Slot)) × Int × Int) : Option (Sum ((List (Gx.Slot)) × Int × Int) ((List (Gx.Slot)))) :=
 sel (decide (p1.2.2 < (v0.mCells.length : Int)))
  (bnd (s_IsGrid N v0) fun x1 =>
  sel (x1)
   (bnd (s_l8From N v0 p1.2.2 false) fun x2 =>
   bnd (s_l8From N v0 p1.2.2 true) fun x3 =>
   bnd (α := Int) (
    sel (decide (x2 ≥ 2))
     (some (w64 (p1.2.1 + 1)))
     (sel (decide (x3 ≥ 2))
      (some (w64 (p1.2.1 + 1)))
      (some p1.2.1))) fun t4 =>
   bnd (α := (List (Gx.Slot))) (
    sel (decide (x2 ≥ 2))
     (chk (p1.1.length + ([(⟨t4, false, p1.2.2, x2⟩ : Gx.Slot)]).length ≤ 274877906944) <|
     some (p1.1 ++ ([(⟨t4, false, p1.2.2, x2⟩ : Gx.Slot)])))
     (some p1.1)) fun t5 =>
   sel (decide (x3 ≥ 2))
    (chk (t5.length + ([(⟨t4, true, p1.2.2, x3⟩ : Gx.Slot)]).length ≤ 274877906944) <|
    some (.inl (t5 ++ ([(⟨t4, true, p1.2.2, x3⟩ : Gx.Slot)]), t4, w64 (p1.2.2 + 1))))
    (some (.inl (t5, t4, w64 (p1.2.2 + 1)))))
   (some (.inr (p1.1))))
  (some (.inr (p1.1)))
def s_SlotsOf (N : Nat) (v0 : Gx.Grid) : Option ((List (Gx.Slot))) :=
 bnd (α := (List (Gx.Slot))) (
  loopN (s_SlotsOf_L1 N v0) N ([], 0, 0)) fun t6 =>
 some t6
def s_FormatInt_L1 (N : Nat) (p1 : (List UInt8) × Int) : Option (Sum ((List UInt8) × Int) ((List UInt8))) :=
 sel (p1.2 != 0)
  (chk ((10 : Int) ≠ 0) <|
  bnd (α := Int) (
   sel (decide ((Int.tmod p1.2 10) < 0))
    (some (w64 (0 - (Int.tmod p1.2 10))))
    (some (Int.tmod p1.2 10))) fun t1 =>
  chk (([UInt8.ofInt (IntKind.u8.wrap (w64 (48 + t1)))]).length + p1.1.length ≤ 274877906944) <|
  chk ((10 : Int) ≠ 0) <|
  some (.inl (([UInt8.ofInt (IntKind.u8.wrap (w64 (48 + t1)))]) ++ p1.1, w64 (Int.tdiv p1.2 10))))
  (some (.inr (p1.1)))
def s_FormatInt (N : Nat) (v0 : Int) : Option ((List UInt8)) :=
 sel (v0 == 0)
  (some ([48] : List UInt8))
  (bnd (α := (List UInt8)) (
   loopN (s_FormatInt_L1 N) N (([] : List UInt8), v0)) fun t2 =>
  sel (decide (v0 < 0))
   (chk (([45] : List UInt8).length + t2.length ≤ 274877906944) <|
   some (([45] : List UInt8) ++ t2))
   (some t2))
def s_SlotName (N : Nat) (v0 : Gx.Slot) : Option ((List UInt8)) :=
 sel (v0.mDown)
  (bnd (s_FormatInt N v0.mNumber) fun x1 =>
  chk (x1.length + ([100] : List UInt8).length ≤ 274877906944) <|
  some (x1 ++ ([100] : List UInt8)))
  (bnd (s_FormatInt N v0.mNumber) fun x2 =>
  chk (x2.length + ([97] : List UInt8).length ≤ 274877906944) <|
  some (x2 ++ ([97] : List UInt8)))
def s_l39Join_L1 (N : Nat) (v0 : List (List UInt8)) (v1 : List UInt8) (p1 : (List UInt8) × Int) : Option (Sum ((List UInt8) × Int) ((List UInt8))) :=
 sel (decide (p1.2 < (v0.length : Int)))
  (bnd (α := (List UInt8)) (
   sel (decide (p1.2 > 0))
    (chk (p1.1.length + v1.length ≤ 274877906944) <|
    some (p1.1 ++ v1))
    (some p1.1)) fun t1 =>
  bnd (getI v0 p1.2) fun x2 =>
  chk (t1.length + x2.length ≤ 274877906944) <|
  some (.inl (t1 ++ x2, w64 (p1.2 + 1))))
  (some (.inr (p1.1)))
def s_l39Join (N : Nat) (v0 : List (List UInt8)) (v1 : List UInt8) : Option ((List UInt8)) :=
 bnd (α := (List UInt8)) (
  loopN (s_l39Join_L1 N v0 v1) N (([] : List UInt8), 0)) fun t3 =>
 sel ((v0.length : Int) == 0)
  (some ([45] : List UInt8))
  (some t3)
def s_FormatSlots_L1 (N : Nat) (x1 : (List (Gx.Slot))) (p1 : (List (List UInt8)) × Int) : Option (Sum ((List (List UInt8)) × Int) ((List (List UInt8)))) :=
 sel (decide (p1.2 < (x1.length : Int)))
  (bnd (getI x1 p1.2) fun x2 =>
  bnd (s_SlotName N x2) fun x3 =>
  chk (x3.length + ([61] : List UInt8).length ≤ 274877906944) <|
  bnd (getI x1 p1.2) fun x4 =>
  bnd (s_FormatInt N x4.mLength) fun x5 =>
  chk ((x3 ++ ([61] : List UInt8)).length + x5.length ≤ 274877906944) <|
  chk (p1.1.length + ([(x3 ++ ([61] : List UInt8)) ++ x5]).length ≤ 274877906944) <|
  some (.inl (p1.1 ++ ([(x3 ++ ([61] : List UInt8)) ++ x5]), w64 (p1.2 + 1))))
  (some (.inr (p1.1)))
def s_FormatSlots (N : Nat) (v0 : Gx.Grid) : Option ((List UInt8)) :=
 bnd (s_SlotsOf N v0) fun x1 =>
 bnd (α := (List (List UInt8))) (
  loopN (s_FormatSlots_L1 N x1) N ([], 0)) fun t6 =>
 bnd (s_l39Join N t6 ([32] : List UInt8)) fun x7 =>
 some x7
def i_InRange (N : Nat) (v0 : Int) (v1 : Int) (v2 : Int) : Option (Bool) :=
 sel (decide (v1 ≤ v0))
  (some (decide (v0 ≤ v2)))
  (some false)
def i_IsGrid_L1 (N : Nat) (v0 : Gx.Grid) (p1 : Int) : Option (Sum (Int) (Cut (Unit) (Bool))) :=
 sel (decide (p1 < (v0.mCells.length : Int)))
  (chk (0 ≤ p1 ∧ p1 < (v0.mCells.length : Int)) <|
  sel ((byteI v0.mCells p1) != 35)
   (chk (0 ≤ p1 ∧ p1 < (v0.mCells.length : Int)) <|
   sel ((byteI v0.mCells p1) != 46)
    (some (.inr (.rt (false))))
    (some (.inl (w64 (p1 + 1)))))
   (some (.inl (w64 (p1 + 1)))))
  (some (.inr (.nx ())))
def i_IsGrid (N : Nat) (v0 : Gx.Grid) : Option (Bool) :=
 bnd (i_InRange N v0.mRows 2 6) fun x1 =>
 sel (!x1)
  (some false)
  (bnd (i_InRange N v0.mCols 2 6) fun x2 =>
  sel (!x2)
   (some false)
   (sel ((v0.mCells.length : Int) != (w64 (v0.mRows * v0.mCols)))
    (some false)
    (cutb (α := Unit) (
     loopN (i_IsGrid_L1 N v0) N 0) fun t3 =>
    some true)))
def i_run_L1 (N : Nat) (t1 : Int × Int × Int) (v1 : Int) (v0 : Gx.Grid) (p1 : Int) : Option (Sum (Int) (Int)) :=
 sel (decide ((w64 (t1.2.1 + p1)) < t1.2.2))
  (chk (0 ≤ (w64 (v1 + (w64 (p1 * t1.1)))) ∧ (w64 (v1 + (w64 (p1 * t1.1)))) < (v0.mCells.length : Int)) <|
  sel ((byteI v0.mCells (w64 (v1 + (w64 (p1 * t1.1))))) == 46)
   (some (.inl (w64 (p1 + 1))))
   (some (.inr (p1))))
  (some (.inr (p1)))
def i_run (N : Nat) (v0 : Gx.Grid) (v1 : Int) (v2 : Bool) : Option (Int) :=
 chk ((v0.mCols : Int) ≠ 0) <|
 bnd (α := Int × Int × Int) (
  sel (v2)
   (chk ((v0.mCols : Int) ≠ 0) <|
   some (v0.mCols, w64 (Int.tdiv v1 v0.mCols), v0.mRows))
   (some (1, Int.tmod v1 v0.mCols, v0.mCols))) fun t1 =>
 cutb (α := Unit) (
  chk (0 ≤ v1 ∧ v1 < (v0.mCells.length : Int)) <|
  sel ((byteI v0.mCells v1) != 46)
   (some (.rt (0)))
   (sel (decide (t1.2.1 > 0))
    (chk (0 ≤ (w64 (v1 - t1.1)) ∧ (w64 (v1 - t1.1)) < (v0.mCells.length : Int)) <|
    sel ((byteI v0.mCells (w64 (v1 - t1.1))) == 46)
     (some (.rt (0)))
     (some (.nx ())))
    (some (.nx ())))) fun t2 =>
 bnd (α := Int) (
  loopN (i_run_L1 N t1 v1 v0) N 0) fun t3 =>
 some t3
def i_SlotsOf_L1 (N : Nat) (v0 : Gx.Grid) (p1 : (List (Gx.Slot)) × Int × Int) : Option (Sum ((List (Gx.Slot)) × Int × Int) ((List (Gx.Slot)))) :=
 sel (decide (p1.2.2 < (v0.mCells.length : Int)))
  (bnd (i_run N v0 p1.2.2 false) fun x2 =>
  bnd (i_run N v0 p1.2.2 true) fun x3 =>
  bnd (α := Int) (
   sel (decide (x2 ≥ 2))
    (some (w64 (p1.2.1 + 1)))
    (sel (decide (x3 ≥ 2))
     (some (w64 (p1.2.1 + 1)))
     (some p1.2.1))) fun t4 =>
  bnd (α := (List (Gx.Slot))) (
   sel (decide (x2 ≥ 2))
    (chk (p1.1.length + ([(⟨t4, false, p1.2.2, x2⟩ : Gx.Slot)]).length ≤ 274877906944) <|
    some (p1.1 ++ ([(⟨t4, false, p1.2.2, x2⟩ : Gx.Slot)])))
    (some p1.1)) fun t5 =>
  sel (decide (x3 ≥ 2))
   (chk (t5.length + ([(⟨t4, true, p1.2.2, x3⟩ : Gx.Slot)]).length ≤ 274877906944) <|
   some (.inl (t5 ++ ([(⟨t4, true, p1.2.2, x3⟩ : Gx.Slot)]), t4, w64 (p1.2.2 + 1))))
   (some (.inl (t5, t4, w64 (p1.2.2 + 1)))))
  (some (.inr (p1.1)))
def i_SlotsOf (N : Nat) (v0 : Gx.Grid) : Option ((List (Gx.Slot))) :=
 bnd (i_IsGrid N v0) fun x1 =>
 sel (!x1)
  (some ([]))
  (bnd (α := (List (Gx.Slot))) (
   loopN (i_SlotsOf_L1 N v0) N ([], 0, 0)) fun t6 =>
  some t6)
def i_FormatInt (N : Nat) (v0 : Int) : Option ((List UInt8)) :=
 bnd (g_strconv_Itoa N v0) fun x1 =>
 some x1
def i_SlotName (N : Nat) (v0 : Gx.Slot) : Option ((List UInt8)) :=
 sel (v0.mDown)
  (bnd (i_FormatInt N v0.mNumber) fun x1 =>
  chk (x1.length + ([100] : List UInt8).length ≤ 274877906944) <|
  some (x1 ++ ([100] : List UInt8)))
  (bnd (i_FormatInt N v0.mNumber) fun x2 =>
  chk (x2.length + ([97] : List UInt8).length ≤ 274877906944) <|
  some (x2 ++ ([97] : List UInt8)))
def i_orDash (N : Nat) (v0 : List (List UInt8)) (v1 : List UInt8) : Option ((List UInt8)) :=
 sel ((v0.length : Int) == 0)
  (some ([45] : List UInt8))
  (bnd (g_strings_Join N v0 v1) fun x1 =>
  some x1)
def i_FormatSlots_L1 (N : Nat) (x1 : (List (Gx.Slot))) (p1 : (List (List UInt8)) × Int) : Option (Sum ((List (List UInt8)) × Int) ((List (List UInt8)))) :=
 sel (decide (p1.2 < (x1.length : Int)))
  (bnd (getI x1 p1.2) fun x2 =>
  bnd (i_SlotName N x2) fun x3 =>
  chk (x3.length + ([61] : List UInt8).length ≤ 274877906944) <|
  bnd (i_FormatInt N x2.mLength) fun x4 =>
  chk ((x3 ++ ([61] : List UInt8)).length + x4.length ≤ 274877906944) <|
  chk (p1.1.length + ([(x3 ++ ([61] : List UInt8)) ++ x4]).length ≤ 274877906944) <|
  some (.inl (p1.1 ++ ([(x3 ++ ([61] : List UInt8)) ++ x4]), w64 (p1.2 + 1))))
  (some (.inr (p1.1)))
def i_FormatSlots (N : Nat) (v0 : Gx.Grid) : Option ((List UInt8)) :=
 bnd (α := (List (List UInt8))) (
  bnd (i_SlotsOf N v0) fun x1 =>
  loopN (i_FormatSlots_L1 N x1) N ([], 0)) fun t5 =>
 bnd (i_orDash N t5 ([32] : List UInt8)) fun x6 =>
 some x6
def l_FnExactFormatSlots (N : Nat) (v0 : Gx.Grid) : Option (Bool) :=
 bnd (l_szGrid N v0 1048576) fun x1 =>
 sel (decide (x1 < 0))
  (some true)
  (bnd (l_toGrid N v0) fun x2 =>
  bnd (s_FormatSlots N x2) fun x3 =>
  bnd (l_toGrid N v0) fun x4 =>
  bnd (i_FormatSlots N x4) fun x5 =>
  sel (x5 != x3)
   (some false)
   (some true))
end Lw
end Go.Proofs
