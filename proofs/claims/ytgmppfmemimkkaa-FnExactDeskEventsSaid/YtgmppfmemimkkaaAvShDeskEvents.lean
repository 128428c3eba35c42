/- PRINTED BY gen.py (mine): the functions that the law reaches, as plain functions. -/
import Derived.Test.YtgmppfmemimkkaaAvLp
namespace Go.Proofs
open Go Go.Av
set_option maxRecDepth 100000
set_option maxHeartbeats 4000000
set_option linter.unusedVariables false
set_option linter.unusedSimpArgs false
namespace Lw
def g_slices_Clone_Simpl_Step_impl_Step (N : Nat) (l : List (Gx.Step)) : Option (List (Gx.Step)) := chk (l.length ≤ 274877906944) (some l)
def l_szGrid (N : Nat) (v0 : Gx.Grid) (v1 : Int) : Option (Int) :=
 sel (decide ((w64 (v1 - (v0.mCells.length : Int))) < 0))
  (some (-1))
  (some (w64 (v1 - (v0.mCells.length : Int))))
def l_szStep (N : Nat) (v0 : Gx.Step) (v1 : Int) : Option (Int) :=
 sel (decide ((w64 (v1 - (v0.mWord.length : Int))) < 0))
  (some (-1))
  (some (w64 (v1 - (v0.mWord.length : Int))))
def l_szStepS_L1 (N : Nat) (v0 : List (Gx.Step)) (p1 : Int × Int) : Option (Sum (Int × Int) (Cut (Int) (Int))) :=
 sel (decide (p1.2 < (v0.length : Int)))
  (bnd (getI v0 p1.2) fun x1 =>
  bnd (l_szStep N x1 p1.1) fun x2 =>
  sel (decide (x2 < 0))
   (some (.inr (.rt ((-1)))))
   (some (.inl (x2, w64 (p1.2 + 1)))))
  (some (.inr (.nx p1.1)))
def l_szStepS (N : Nat) (v0 : List (Gx.Step)) (v1 : Int) : Option (Int) :=
 sel (decide ((w64 (v1 - (v0.length : Int))) < 0))
  (some (-1))
  (cutb (α := Int) (
   loopN (l_szStepS_L1 N v0) N (w64 (v1 - (v0.length : Int)), 0)) fun t3 =>
  some t3)
def l_szClue (N : Nat) (v0 : Gx.Clue) (v1 : Int) : Option (Int) :=
 bnd (l_szStepS N v0.mPlay v1) fun x1 =>
 sel (decide (x1 < 0))
  (some (-1))
  (some x1)
def l_szClueS_L1 (N : Nat) (v0 : List (Gx.Clue)) (p1 : Int × Int) : Option (Sum (Int × Int) (Cut (Int) (Int))) :=
 sel (decide (p1.2 < (v0.length : Int)))
  (bnd (getI v0 p1.2) fun x1 =>
  bnd (l_szClue N x1 p1.1) fun x2 =>
  sel (decide (x2 < 0))
   (some (.inr (.rt ((-1)))))
   (some (.inl (x2, w64 (p1.2 + 1)))))
  (some (.inr (.nx p1.1)))
def l_szClueS (N : Nat) (v0 : List (Gx.Clue)) (v1 : Int) : Option (Int) :=
 sel (decide ((w64 (v1 - (v0.length : Int))) < 0))
  (some (-1))
  (cutb (α := Int) (
   loopN (l_szClueS_L1 N v0) N (w64 (v1 - (v0.length : Int)), 0)) fun t3 =>
  some t3)
def l_toGrid (N : Nat) (v0 : Gx.Grid) : Option (Gx.Grid) :=
 some v0
def l_toStep (N : Nat) (v0 : Gx.Step) : Option (Gx.Step) :=
 some v0
def l_toStepS_L1 (N : Nat) (v0 : List (Gx.Step)) (p1 : (List (Gx.Step)) × Int) : Option (Sum ((List (Gx.Step)) × Int) ((List (Gx.Step)))) :=
 sel (decide (p1.2 < (v0.length : Int)))
  (bnd (getI v0 p1.2) fun x1 =>
  bnd (l_toStep N x1) fun x2 =>
  bnd (getI p1.1 p1.2) fun x3 =>
  some (.inl (List.set p1.1 (Int.toNat p1.2) x2, w64 (p1.2 + 1))))
  (some (.inr (p1.1)))
def l_toStepS (N : Nat) (v0 : List (Gx.Step)) : Option ((List (Gx.Step))) :=
 chk (0 ≤ (v0.length : Int) ∧ (v0.length : Int) ≤ 274877906944) <|
 bnd (α := (List (Gx.Step))) (
  loopN (l_toStepS_L1 N v0) N (List.replicate (Int.toNat (v0.length : Int)) (⟨0, ([] : List UInt8), 0, 0⟩ : Gx.Step), 0)) fun t4 =>
 some t4
def l_toClue (N : Nat) (v0 : Gx.Clue) : Option (Gx.Clue) :=
 bnd (l_toStepS N v0.mPlay) fun x1 =>
 some (⟨v0.mSense, x1⟩ : Gx.Clue)
def l_toClueS_L1 (N : Nat) (v0 : List (Gx.Clue)) (p1 : (List (Gx.Clue)) × Int) : Option (Sum ((List (Gx.Clue)) × Int) ((List (Gx.Clue)))) :=
 sel (decide (p1.2 < (v0.length : Int)))
  (bnd (getI v0 p1.2) fun x1 =>
  bnd (l_toClue N x1) fun x2 =>
  bnd (getI p1.1 p1.2) fun x3 =>
  some (.inl (List.set p1.1 (Int.toNat p1.2) x2, w64 (p1.2 + 1))))
  (some (.inr (p1.1)))
def l_toClueS (N : Nat) (v0 : List (Gx.Clue)) : Option ((List (Gx.Clue))) :=
 chk (0 ≤ (v0.length : Int) ∧ (v0.length : Int) ≤ 274877906944) <|
 bnd (α := (List (Gx.Clue))) (
  loopN (l_toClueS_L1 N v0) N (List.replicate (Int.toNat (v0.length : Int)) (⟨0, []⟩ : Gx.Clue), 0)) fun t4 =>
 some t4
def s_l1In (N : Nat) (v0 : Int) (v1 : Int) (v2 : Int) : Option (Bool) :=
 sel (decide (v0 ≥ v1))
  (some (decide (v0 ≤ v2)))
  (some false)
def s_IsGrid_L1 (N : Nat) (v0 : Gx.Grid) (p1 : Int) : Option (Sum (Int) (Cut (Unit) (Bool))) :=
 sel (decide (p1 < (v0.mCells.length : Int)))
  (chk (0 ≤ p1 ∧ p1 < (v0.mCells.length : Int)) <|
  sel ((byteI v0.mCells p1) != 35)
   (chk (0 ≤ p1 ∧ p1 < (v0.mCells.length : Int)) <|
   sel ((byteI v0.mCells p1) != 46)
    (some (.inr (.rt (false))))
    (some (.inl (w64 (p1 + 1)))))
   (some (.inl (w64 (p1 + 1)))))
  (some (.inr (.nx ())))
def s_IsGrid (N : Nat) (v0 : Gx.Grid) : Option (Bool) :=
 bnd (s_l1In N v0.mRows 2 6) fun x1 =>
 sel (!x1)
  (some false)
  (bnd (s_l1In N v0.mCols 2 6) fun x2 =>
  sel (!x2)
   (some false)
   (sel ((v0.mCells.length : Int) != (w64 (v0.mRows * v0.mCols)))
    (some false)
    (cutb (α := Unit) (
     loopN (s_IsGrid_L1 N v0) N 0) fun t3 =>
    some true)))
def s_l8From_L1 (N : Nat) (t1 : Int × Int × Int) (v1 : Int) (v0 : Gx.Grid) (p1 : Int) : Option (Sum (Int) (Int)) :=
 sel (decide ((w64 (t1.2.1 + p1)) < t1.2.2))
  (chk (0 ≤ (w64 (v1 + (w64 (p1 * t1.1)))) ∧ (w64 (v1 + (w64 (p1 * t1.1)))) < (v0.mCells.length : Int)) <|
  sel ((byteI v0.mCells (w64 (v1 + (w64 (p1 * t1.1))))) == 46)
   (some (.inl (w64 (p1 + 1))))
   (some (.inr (p1))))
  (some (.inr (p1)))
def s_l8From (N : Nat) (v0 : Gx.Grid) (v1 : Int) (v2 : Bool) : Option (Int) :=
 chk ((v0.mCols : Int) ≠ 0) <|
 bnd (α := Int × Int × Int) (
  sel (v2)
   (chk ((v0.mCols : Int) ≠ 0) <|
   some (v0.mCols, w64 (Int.tdiv v1 v0.mCols), v0.mRows))
   (some (1, Int.tmod v1 v0.mCols, v0.mCols))) fun t1 =>
 cutb (α := Unit) (
  chk (0 ≤ v1 ∧ v1 < (v0.mCells.length : Int)) <|
  sel ((byteI v0.mCells v1) != 46)
   (some (.rt (0)))
   (sel (decide (t1.2.1 > 0))
    (chk (0 ≤ (w64 (v1 - t1.1)) ∧ (w64 (v1 - t1.1)) < (v0.mCells.length : Int)) <|
    sel ((byteI v0.mCells (w64 (v1 - t1.1))) == 46)
     (some (.rt (0)))
     (some (.nx ())))
    (some (.nx ())))) fun t2 =>
 bnd (α := Int) (
  loopN (s_l8From_L1 N t1 v1 v0) N 0) fun t3 =>
 some t3
def s_SlotsOf_L1 (N : Nat) (v0 : Gx.Grid) (p1 : (List (Gx.Slot)) × Int × Int) : Option (Sum ((List (Gx.Slot)) × Int × Int) ((List (Gx.Slot)))) :=
 sel (decide (p1.2.2 < (v0.mCells.length : Int)))
  (bnd (s_IsGrid N v0) fun x1 =>
  sel (x1)
   (bnd (s_l8From N v0 p1.2.2 false) fun x2 =>
   bnd (s_l8From N v0 p1.2.2 true) fun x3 =>
   bnd (α := Int) (
    sel (decide (x2 ≥ 2))
     (some (w64 (p1.2.1 + 1)))
     (sel (decide (x3 ≥ 2))
      (some (w64 (p1.2.1 + 1)))
      (some p1.2.1))) fun t4 =>
   bnd (α := (List (Gx.Slot))) (
    sel (decide (x2 ≥ 2))
     (chk (p1.1.length + ([(⟨t4, false, p1.2.2, x2⟩ : Gx.Slot)]).length ≤ 274877906944) <|
     some (p1.1 ++ ([(⟨t4, false, p1.2.2, x2⟩ : Gx.Slot)])))
     (some p1.1)) fun t5 =>
   sel (decide (x3 ≥ 2))
    (chk (t5.length + ([(⟨t4, true, p1.2.2, x3⟩ : Gx.Slot)]).length ≤ 274877906944) <|
    some (.inl (t5 ++ ([(⟨t4, true, p1.2.2, x3⟩ : Gx.Slot)]), t4, w64 (p1.2.2 + 1))))
    (some (.inl (t5, t4, w64 (p1.2.2 + 1)))))
   (some (.inr (p1.1))))
  (some (.inr (p1.1)))
def s_SlotsOf (N : Nat) (v0 : Gx.Grid) : Option ((List (Gx.Slot))) :=
 bnd (α := (List (Gx.Slot))) (
  loopN (s_SlotsOf_L1 N v0) N ([], 0, 0)) fun t6 =>
 some t6
def s_IsFill_L1 (N : Nat) (v1 : List UInt8) (v0 : Gx.Grid) (p1 : Int) : Option (Sum (Int) (Cut (Unit) (Bool))) :=
 sel (decide (p1 < (v1.length : Int)))
  (bnd (α := Bool) (
   chk (0 ≤ p1 ∧ p1 < (v1.length : Int)) <|
   sel ((byteI v1 p1) == 63)
    (some true)
    (chk (0 ≤ p1 ∧ p1 < (v1.length : Int)) <|
    sel (decide ((byteI v1 p1) ≥ 97))
     (chk (0 ≤ p1 ∧ p1 < (v1.length : Int)) <|
     some (decide ((byteI v1 p1) ≤ 122)))
     (some false))) fun t2 =>
  chk (0 ≤ p1 ∧ p1 < (v0.mCells.length : Int)) <|
  sel ((byteI v0.mCells p1) == 35)
   (chk (0 ≤ p1 ∧ p1 < (v1.length : Int)) <|
   sel ((byteI v1 p1) != 35)
    (some (.inr (.rt (false))))
    (chk (0 ≤ p1 ∧ p1 < (v0.mCells.length : Int)) <|
    sel ((byteI v0.mCells p1) == 46)
     (sel (!t2)
      (some (.inr (.rt (false))))
      (some (.inl (w64 (p1 + 1)))))
     (some (.inl (w64 (p1 + 1))))))
   (chk (0 ≤ p1 ∧ p1 < (v0.mCells.length : Int)) <|
   sel ((byteI v0.mCells p1) == 46)
    (sel (!t2)
     (some (.inr (.rt (false))))
     (some (.inl (w64 (p1 + 1)))))
    (some (.inl (w64 (p1 + 1))))))
  (some (.inr (.nx ())))
def s_IsFill (N : Nat) (v0 : Gx.Grid) (v1 : List UInt8) : Option (Bool) :=
 bnd (s_IsGrid N v0) fun x1 =>
 sel (!x1)
  (some false)
  (sel ((v1.length : Int) != (v0.mCells.length : Int))
   (some false)
   (cutb (α := Unit) (
    loopN (s_IsFill_L1 N v1 v0) N 0) fun t3 =>
   some true))
def s_CellsOf_L2 (N : Nat) (v1 : Gx.Slot) (v0 : Gx.Grid) (p2 : (List (Int)) × Int) : Option (Sum ((List (Int)) × Int) ((List (Int)))) :=
 sel (decide (p2.2 < v1.mLength))
  (sel (v1.mDown)
   (chk (p2.1.length + ([w64 (v1.mCell + (w64 (p2.2 * v0.mCols)))]).length ≤ 274877906944) <|
   some (.inl (p2.1 ++ ([w64 (v1.mCell + (w64 (p2.2 * v0.mCols)))]), w64 (p2.2 + 1))))
   (chk (p2.1.length + ([w64 (v1.mCell + p2.2)]).length ≤ 274877906944) <|
   some (.inl (p2.1 ++ ([w64 (v1.mCell + p2.2)]), w64 (p2.2 + 1)))))
  (some (.inr (p2.1)))
def s_CellsOf_L1 (N : Nat) (x1 : (List (Gx.Slot))) (v1 : Gx.Slot) (v0 : Gx.Grid) (p1 : (List (Int)) × Int) : Option (Sum ((List (Int)) × Int) ((List (Int)))) :=
 sel (decide (p1.2 < (x1.length : Int)))
  (bnd (α := (List (Int))) (
   bnd (getI x1 p1.2) fun x2 =>
   sel (!(x2.mNumber == v1.mNumber && (x2.mDown == v1.mDown && (x2.mCell == v1.mCell && (x2.mLength == v1.mLength && true)))))
    (some p1.1)
    (loopN (s_CellsOf_L2 N v1 v0) N (p1.1, 0))) fun t3 =>
  some (.inl (t3, w64 (p1.2 + 1))))
  (some (.inr (p1.1)))
def s_CellsOf (N : Nat) (v0 : Gx.Grid) (v1 : Gx.Slot) : Option ((List (Int))) :=
 bnd (s_SlotsOf N v0) fun x1 =>
 bnd (α := (List (Int))) (
  loopN (s_CellsOf_L1 N x1 v1 v0) N ([], 0)) fun t4 =>
 some t4
def s_SlotPattern_L1 (N : Nat) (x5 : (List (Int))) (v1 : List UInt8) (p1 : (List UInt8) × Int) : Option (Sum ((List UInt8) × Int) ((List UInt8))) :=
 sel (decide (p1.2 < (x5.length : Int)))
  (bnd (getI x5 p1.2) fun x6 =>
  bnd (getI x5 p1.2) fun x7 =>
  chk (0 ≤ x6 ∧ x6 ≤ (w64 (x7 + 1)) ∧ (w64 (x7 + 1)) ≤ (v1.length : Int)) <|
  chk (p1.1.length + (sub v1 x6 (w64 (x7 + 1))).length ≤ 274877906944) <|
  some (.inl (p1.1 ++ (sub v1 x6 (w64 (x7 + 1))), w64 (p1.2 + 1))))
  (some (.inr (p1.1)))
def s_SlotPattern (N : Nat) (v0 : Gx.Grid) (v1 : List UInt8) (v2 : Int) : Option ((List UInt8)) :=
 bnd (s_SlotsOf N v0) fun x1 =>
 bnd (s_IsFill N v0 v1) fun x2 =>
 sel (!x2)
  (some ([] : List UInt8))
  (bnd (s_l1In N v2 0 (w64 ((x1.length : Int) - 1))) fun x3 =>
  sel (!x3)
   (some ([] : List UInt8))
   (bnd (getI x1 v2) fun x4 =>
   bnd (s_CellsOf N v0 x4) fun x5 =>
   bnd (α := (List UInt8)) (
    loopN (s_SlotPattern_L1 N x5 v1) N (([] : List UInt8), 0)) fun t8 =>
   some t8))
def s_l11Open_L1 (N : Nat) (v0 : List UInt8) (p1 : Int) : Option (Sum (Int) (Cut (Unit) (Bool))) :=
 sel (decide (p1 < (v0.length : Int)))
  (chk (0 ≤ p1 ∧ p1 < (v0.length : Int)) <|
  sel ((byteI v0 p1) == 63)
   (some (.inr (.rt (true))))
   (some (.inl (w64 (p1 + 1)))))
  (some (.inr (.nx ())))
def s_l11Open (N : Nat) (v0 : List UInt8) : Option (Bool) :=
 cutb (α := Unit) (
  loopN (s_l11Open_L1 N v0) N 0) fun t1 =>
 some false
def s_l18Copy (N : Nat) (v0 : Gx.Clue) : Option (Gx.Clue) :=
 chk (([] : List (Gx.Step)).length + v0.mPlay.length ≤ 274877906944) <|
 some v0
def s_DeskEvents_L1 (N : Nat) (x1 : (List (Gx.Slot))) (v0 : Gx.Grid) (v1 : List UInt8) (p1 : (List (Gx.Event)) × Int) : Option (Sum ((List (Gx.Event)) × Int) ((List (Gx.Event)))) :=
 sel (decide (p1.2 < (x1.length : Int)))
  (bnd (s_IsFill N v0 v1) fun x2 =>
  sel (x2)
   (bnd (s_SlotPattern N v0 v1 p1.2) fun x3 =>
   bnd (s_l11Open N x3) fun x4 =>
   sel (!x4)
    (chk (p1.1.length + ([(⟨2, p1.2, 0, 0, x3, (⟨0, 0, ([] : List UInt8)⟩ : Gx.Grid), (⟨0, []⟩ : Gx.Clue), (⟨([] : List UInt8), 0, 0, 0⟩ : Gx.Listed), (⟨([] : List UInt8), 0⟩ : Gx.Meaning)⟩ : Gx.Event)]).length ≤ 274877906944) <|
    some (.inl (p1.1 ++ ([(⟨2, p1.2, 0, 0, x3, (⟨0, 0, ([] : List UInt8)⟩ : Gx.Grid), (⟨0, []⟩ : Gx.Clue), (⟨([] : List UInt8), 0, 0, 0⟩ : Gx.Listed), (⟨([] : List UInt8), 0⟩ : Gx.Meaning)⟩ : Gx.Event)]), w64 (p1.2 + 1))))
    (some (.inl (p1.1, w64 (p1.2 + 1)))))
   (some (.inr (p1.1))))
  (some (.inr (p1.1)))
def s_DeskEvents_L2 (N : Nat) (v2 : List (Gx.Clue)) (v0 : Gx.Grid) (v1 : List UInt8) (p2 : (List (Gx.Event)) × Int) : Option (Sum ((List (Gx.Event)) × Int) ((List (Gx.Event)))) :=
 sel (decide (p2.2 < (v2.length : Int)))
  (bnd (s_IsFill N v0 v1) fun x6 =>
  sel (x6)
   (bnd (getI v2 p2.2) fun x7 =>
   bnd (s_l18Copy N x7) fun x8 =>
   chk (p2.1.length + ([(⟨3, p2.2, 0, 0, ([] : List UInt8), (⟨0, 0, ([] : List UInt8)⟩ : Gx.Grid), (⟨x8.mSense, x8.mPlay⟩ : Gx.Clue), (⟨([] : List UInt8), 0, 0, 0⟩ : Gx.Listed), (⟨([] : List UInt8), 0⟩ : Gx.Meaning)⟩ : Gx.Event)]).length ≤ 274877906944) <|
   some (.inl (p2.1 ++ ([(⟨3, p2.2, 0, 0, ([] : List UInt8), (⟨0, 0, ([] : List UInt8)⟩ : Gx.Grid), (⟨x8.mSense, x8.mPlay⟩ : Gx.Clue), (⟨([] : List UInt8), 0, 0, 0⟩ : Gx.Listed), (⟨([] : List UInt8), 0⟩ : Gx.Meaning)⟩ : Gx.Event)]), w64 (p2.2 + 1))))
   (some (.inr (p2.1))))
  (some (.inr (p2.1)))
def s_DeskEvents (N : Nat) (v0 : Gx.Grid) (v1 : List UInt8) (v2 : List (Gx.Clue)) : Option ((List (Gx.Event))) :=
 bnd (s_SlotsOf N v0) fun x1 =>
 bnd (α := (List (Gx.Event))) (
  loopN (s_DeskEvents_L1 N x1 v0 v1) N ([(⟨1, 0, 0, 0, ([] : List UInt8), (⟨v0.mRows, v0.mCols, v0.mCells⟩ : Gx.Grid), (⟨0, []⟩ : Gx.Clue), (⟨([] : List UInt8), 0, 0, 0⟩ : Gx.Listed), (⟨([] : List UInt8), 0⟩ : Gx.Meaning)⟩ : Gx.Event)], 0)) fun t5 =>
 bnd (α := (List (Gx.Event))) (
  loopN (s_DeskEvents_L2 N v2 v0 v1) N (t5, 0)) fun t9 =>
 some t9
def i_InRange (N : Nat) (v0 : Int) (v1 : Int) (v2 : Int) : Option (Bool) :=
 sel (decide (v1 ≤ v0))
  (some (decide (v0 ≤ v2)))
  (some false)
def i_IsGrid_L1 (N : Nat) (v0 : Gx.Grid) (p1 : Int) : Option (Sum (Int) (Cut (Unit) (Bool))) :=
 sel (decide (p1 < (v0.mCells.length : Int)))
  (chk (0 ≤ p1 ∧ p1 < (v0.mCells.length : Int)) <|
  sel ((byteI v0.mCells p1) != 35)
   (chk (0 ≤ p1 ∧ p1 < (v0.mCells.length : Int)) <|
   sel ((byteI v0.mCells p1) != 46)
    (some (.inr (.rt (false))))
    (some (.inl (w64 (p1 + 1)))))
   (some (.inl (w64 (p1 + 1)))))
  (some (.inr (.nx ())))
def i_IsGrid (N : Nat) (v0 : Gx.Grid) : Option (Bool) :=
 bnd (i_InRange N v0.mRows 2 6) fun x1 =>
 sel (!x1)
  (some false)
  (bnd (i_InRange N v0.mCols 2 6) fun x2 =>
  sel (!x2)
   (some false)
   (sel ((v0.mCells.length : Int) != (w64 (v0.mRows * v0.mCols)))
    (some false)
    (cutb (α := Unit) (
     loopN (i_IsGrid_L1 N v0) N 0) fun t3 =>
    some true)))
def i_isLetter (N : Nat) (v0 : Int) : Option (Bool) :=
 sel (decide (v0 ≥ 97))
  (some (decide (v0 ≤ 122)))
  (some false)
def i_IsFill_L1 (N : Nat) (v1 : List UInt8) (v0 : Gx.Grid) (p1 : Int) : Option (Sum (Int) (Cut (Unit) (Bool))) :=
 sel (decide (p1 < (v1.length : Int)))
  (chk (0 ≤ p1 ∧ p1 < (v0.mCells.length : Int)) <|
  chk (0 ≤ p1 ∧ p1 < (v1.length : Int)) <|
  sel (((byteI v0.mCells p1) == 35) != ((byteI v1 p1) == 35))
   (some (.inr (.rt (false))))
   (chk (0 ≤ p1 ∧ p1 < (v1.length : Int)) <|
   sel ((byteI v1 p1) != 35)
    (chk (0 ≤ p1 ∧ p1 < (v1.length : Int)) <|
    sel ((byteI v1 p1) != 63)
     (chk (0 ≤ p1 ∧ p1 < (v1.length : Int)) <|
     bnd (i_isLetter N (byteI v1 p1)) fun x2 =>
     sel (!x2)
      (some (.inr (.rt (false))))
      (some (.inl (w64 (p1 + 1)))))
     (some (.inl (w64 (p1 + 1)))))
    (some (.inl (w64 (p1 + 1))))))
  (some (.inr (.nx ())))
def i_IsFill (N : Nat) (v0 : Gx.Grid) (v1 : List UInt8) : Option (Bool) :=
 bnd (i_IsGrid N v0) fun x1 =>
 sel (!x1)
  (some false)
  (sel ((v1.length : Int) != (v0.mCells.length : Int))
   (some false)
   (cutb (α := Unit) (
    loopN (i_IsFill_L1 N v1 v0) N 0) fun t3 =>
   some true))
def i_run_L1 (N : Nat) (t1 : Int × Int × Int) (v1 : Int) (v0 : Gx.Grid) (p1 : Int) : Option (Sum (Int) (Int)) :=
 sel (decide ((w64 (t1.2.1 + p1)) < t1.2.2))
  (chk (0 ≤ (w64 (v1 + (w64 (p1 * t1.1)))) ∧ (w64 (v1 + (w64 (p1 * t1.1)))) < (v0.mCells.length : Int)) <|
  sel ((byteI v0.mCells (w64 (v1 + (w64 (p1 * t1.1))))) == 46)
   (some (.inl (w64 (p1 + 1))))
   (some (.inr (p1))))
  (some (.inr (p1)))
def i_run (N : Nat) (v0 : Gx.Grid) (v1 : Int) (v2 : Bool) : Option (Int) :=
 chk ((v0.mCols : Int) ≠ 0) <|
 bnd (α := Int × Int × Int) (
  sel (v2)
   (chk ((v0.mCols : Int) ≠ 0) <|
   some (v0.mCols, w64 (Int.tdiv v1 v0.mCols), v0.mRows))
   (some (1, Int.tmod v1 v0.mCols, v0.mCols))) fun t1 =>
 cutb (α := Unit) (
  chk (0 ≤ v1 ∧ v1 < (v0.mCells.length : Int)) <|
  sel ((byteI v0.mCells v1) != 46)
   (some (.rt (0)))
   (sel (decide (t1.2.1 > 0))
    (chk (0 ≤ (w64 (v1 - t1.1)) ∧ (w64 (v1 - t1.1)) < (v0.mCells.length : Int)) <|
    sel ((byteI v0.mCells (w64 (v1 - t1.1))) == 46)
     (some (.rt (0)))
     (some (.nx ())))
    (some (.nx ())))) fun t2 =>
 bnd (α := Int) (
  loopN (i_run_L1 N t1 v1 v0) N 0) fun t3 =>
 some t3
def i_SlotsOf_L1 (N : Nat) (v0 : Gx.Grid) (p1 : (List (Gx.Slot)) × Int × Int) : Option (Sum ((List (Gx.Slot)) × Int × Int) ((List (Gx.Slot)))) :=
 sel (decide (p1.2.2 < (v0.mCells.length : Int)))
  (bnd (i_run N v0 p1.2.2 false) fun x2 =>
  bnd (i_run N v0 p1.2.2 true) fun x3 =>
  bnd (α := Int) (
   sel (decide (x2 ≥ 2))
    (some (w64 (p1.2.1 + 1)))
    (sel (decide (x3 ≥ 2))
     (some (w64 (p1.2.1 + 1)))
     (some p1.2.1))) fun t4 =>
  bnd (α := (List (Gx.Slot))) (
   sel (decide (x2 ≥ 2))
    (chk (p1.1.length + ([(⟨t4, false, p1.2.2, x2⟩ : Gx.Slot)]).length ≤ 274877906944) <|
    some (p1.1 ++ ([(⟨t4, false, p1.2.2, x2⟩ : Gx.Slot)])))
    (some p1.1)) fun t5 =>
  sel (decide (x3 ≥ 2))
   (chk (t5.length + ([(⟨t4, true, p1.2.2, x3⟩ : Gx.Slot)]).length ≤ 274877906944) <|
   some (.inl (t5 ++ ([(⟨t4, true, p1.2.2, x3⟩ : Gx.Slot)]), t4, w64 (p1.2.2 + 1))))
   (some (.inl (t5, t4, w64 (p1.2.2 + 1)))))
  (some (.inr (p1.1)))
def i_SlotsOf (N : Nat) (v0 : Gx.Grid) : Option ((List (Gx.Slot))) :=
 bnd (i_IsGrid N v0) fun x1 =>
 sel (!x1)
  (some ([]))
  (bnd (α := (List (Gx.Slot))) (
   loopN (i_SlotsOf_L1 N v0) N ([], 0, 0)) fun t6 =>
  some t6)
def i_cells_L1 (N : Nat) (v1 : Gx.Slot) (t1 : Int) (p1 : (List (Int)) × Int) : Option (Sum ((List (Int)) × Int) ((List (Int)))) :=
 sel (decide (p1.2 < v1.mLength))
  (chk (p1.1.length + ([w64 (v1.mCell + (w64 (p1.2 * t1)))]).length ≤ 274877906944) <|
  some (.inl (p1.1 ++ ([w64 (v1.mCell + (w64 (p1.2 * t1)))]), w64 (p1.2 + 1))))
  (some (.inr (p1.1)))
def i_cells (N : Nat) (v0 : Gx.Grid) (v1 : Gx.Slot) : Option ((List (Int))) :=
 bnd (α := Int) (
  sel (v1.mDown)
   (some v0.mCols)
   (some 1)) fun t1 =>
 bnd (α := (List (Int))) (
  loopN (i_cells_L1 N v1 t1) N ([], 0)) fun t2 =>
 some t2
def i_layout_L1 (N : Nat) (x1 : (List (Gx.Slot))) (v0 : Gx.Grid) (p1 : (List (List (Int))) × Int) : Option (Sum ((List (List (Int))) × Int) ((List (List (Int))))) :=
 sel (decide (p1.2 < (x1.length : Int)))
  (bnd (getI x1 p1.2) fun x2 =>
  bnd (i_cells N v0 x2) fun x3 =>
  chk (p1.1.length + ([x3]).length ≤ 274877906944) <|
  some (.inl (p1.1 ++ ([x3]), w64 (p1.2 + 1))))
  (some (.inr (p1.1)))
def i_layout (N : Nat) (v0 : Gx.Grid) : Option ((List (List (Int)))) :=
 bnd (α := (List (List (Int)))) (
  bnd (i_SlotsOf N v0) fun x1 =>
  loopN (i_layout_L1 N x1 v0) N ([], 0)) fun t4 =>
 some t4
def i_readCells_L1 (N : Nat) (v1 : List (Int)) (v0 : List UInt8) (p1 : (List (UInt8)) × Int) : Option (Sum ((List (UInt8)) × Int) ((List (UInt8)))) :=
 sel (decide (p1.2 < (v1.length : Int)))
  (bnd (getI v1 p1.2) fun x1 =>
  chk (0 ≤ x1 ∧ x1 < (v0.length : Int)) <|
  chk (p1.1.length + ([List.getD v0 (Int.toNat x1) 0]).length ≤ 274877906944) <|
  some (.inl (p1.1 ++ ([List.getD v0 (Int.toNat x1) 0]), w64 (p1.2 + 1))))
  (some (.inr (p1.1)))
def i_readCells (N : Nat) (v0 : List UInt8) (v1 : List (Int)) : Option ((List UInt8)) :=
 bnd (α := (List (UInt8))) (
  loopN (i_readCells_L1 N v1 v0) N ([], 0)) fun t2 =>
 some t2
def i_patterns_L1 (N : Nat) (x2 : (List (List (Int)))) (v1 : List UInt8) (p1 : (List (List UInt8)) × Int) : Option (Sum ((List (List UInt8)) × Int) ((List (List UInt8)))) :=
 sel (decide (p1.2 < (x2.length : Int)))
  (bnd (getI x2 p1.2) fun x3 =>
  bnd (i_readCells N v1 x3) fun x4 =>
  chk (p1.1.length + ([x4]).length ≤ 274877906944) <|
  some (.inl (p1.1 ++ ([x4]), w64 (p1.2 + 1))))
  (some (.inr (p1.1)))
def i_patterns (N : Nat) (v0 : Gx.Grid) (v1 : List UInt8) : Option ((List (List UInt8))) :=
 bnd (i_IsFill N v0 v1) fun x1 =>
 sel (!x1)
  (some ([]))
  (bnd (α := (List (List UInt8))) (
   bnd (i_layout N v0) fun x2 =>
   loopN (i_patterns_L1 N x2 v1) N ([], 0)) fun t5 =>
  some t5)
def i_openIn_L1 (N : Nat) (v0 : List UInt8) (p1 : Int × Int) : Option (Sum (Int × Int) (Int)) :=
 sel (decide (p1.2 < (v0.length : Int)))
  (chk (0 ≤ p1.2 ∧ p1.2 < (v0.length : Int)) <|
  sel ((byteI v0 p1.2) == 63)
   (some (.inl (w64 (p1.1 + 1), w64 (p1.2 + 1))))
   (some (.inl (p1.1, w64 (p1.2 + 1)))))
  (some (.inr (p1.1)))
def i_openIn (N : Nat) (v0 : List UInt8) : Option (Int) :=
 bnd (α := Int) (
  loopN (i_openIn_L1 N v0) N (0, 0)) fun t1 =>
 some t1
def i_copyClue (N : Nat) (v0 : Gx.Clue) : Option (Gx.Clue) :=
 bnd (g_slices_Clone_Simpl_Step_impl_Step N v0.mPlay) fun x1 =>
 some (⟨v0.mSense, x1⟩ : Gx.Clue)
def i_DeskEvents_L1 (N : Nat) (x2 : (List (List UInt8))) (p1 : (List (Gx.Event)) × Int) : Option (Sum ((List (Gx.Event)) × Int) ((List (Gx.Event)))) :=
 sel (decide (p1.2 < (x2.length : Int)))
  (bnd (getI x2 p1.2) fun x3 =>
  bnd (i_openIn N x3) fun x4 =>
  sel (x4 == 0)
   (chk (p1.1.length + ([(⟨2, p1.2, 0, 0, x3, (⟨0, 0, ([] : List UInt8)⟩ : Gx.Grid), (⟨0, []⟩ : Gx.Clue), (⟨([] : List UInt8), 0, 0, 0⟩ : Gx.Listed), (⟨([] : List UInt8), 0⟩ : Gx.Meaning)⟩ : Gx.Event)]).length ≤ 274877906944) <|
   some (.inl (p1.1 ++ ([(⟨2, p1.2, 0, 0, x3, (⟨0, 0, ([] : List UInt8)⟩ : Gx.Grid), (⟨0, []⟩ : Gx.Clue), (⟨([] : List UInt8), 0, 0, 0⟩ : Gx.Listed), (⟨([] : List UInt8), 0⟩ : Gx.Meaning)⟩ : Gx.Event)]), w64 (p1.2 + 1))))
   (some (.inl (p1.1, w64 (p1.2 + 1)))))
  (some (.inr (p1.1)))
def i_DeskEvents_L2 (N : Nat) (v2 : List (Gx.Clue)) (p2 : (List (Gx.Event)) × Int) : Option (Sum ((List (Gx.Event)) × Int) ((List (Gx.Event)))) :=
 sel (decide (p2.2 < (v2.length : Int)))
  (bnd (getI v2 p2.2) fun x6 =>
  bnd (i_copyClue N x6) fun x7 =>
  chk (p2.1.length + ([(⟨3, p2.2, 0, 0, ([] : List UInt8), (⟨0, 0, ([] : List UInt8)⟩ : Gx.Grid), (⟨x7.mSense, x7.mPlay⟩ : Gx.Clue), (⟨([] : List UInt8), 0, 0, 0⟩ : Gx.Listed), (⟨([] : List UInt8), 0⟩ : Gx.Meaning)⟩ : Gx.Event)]).length ≤ 274877906944) <|
  some (.inl (p2.1 ++ ([(⟨3, p2.2, 0, 0, ([] : List UInt8), (⟨0, 0, ([] : List UInt8)⟩ : Gx.Grid), (⟨x7.mSense, x7.mPlay⟩ : Gx.Clue), (⟨([] : List UInt8), 0, 0, 0⟩ : Gx.Listed), (⟨([] : List UInt8), 0⟩ : Gx.Meaning)⟩ : Gx.Event)]), w64 (p2.2 + 1))))
  (some (.inr (p2.1)))
def i_DeskEvents (N : Nat) (v0 : Gx.Grid) (v1 : List UInt8) (v2 : List (Gx.Clue)) : Option ((List (Gx.Event))) :=
 bnd (i_IsFill N v0 v1) fun x1 =>
 sel (!x1)
  (some ([(⟨1, 0, 0, 0, ([] : List UInt8), (⟨v0.mRows, v0.mCols, v0.mCells⟩ : Gx.Grid), (⟨0, []⟩ : Gx.Clue), (⟨([] : List UInt8), 0, 0, 0⟩ : Gx.Listed), (⟨([] : List UInt8), 0⟩ : Gx.Meaning)⟩ : Gx.Event)]))
  (bnd (α := (List (Gx.Event))) (
   bnd (i_patterns N v0 v1) fun x2 =>
   loopN (i_DeskEvents_L1 N x2) N ([(⟨1, 0, 0, 0, ([] : List UInt8), (⟨v0.mRows, v0.mCols, v0.mCells⟩ : Gx.Grid), (⟨0, []⟩ : Gx.Clue), (⟨([] : List UInt8), 0, 0, 0⟩ : Gx.Listed), (⟨([] : List UInt8), 0⟩ : Gx.Meaning)⟩ : Gx.Event)], 0)) fun t5 =>
  bnd (α := (List (Gx.Event))) (
   loopN (i_DeskEvents_L2 N v2) N (t5, 0)) fun t8 =>
  some t8)
def l_eqGrid (N : Nat) (v0 : Gx.Grid) (v1 : Gx.Grid) : Option (Bool) :=
 sel (v0.mRows != v1.mRows)
  (some false)
  (sel (v0.mCols != v1.mCols)
   (some false)
   (sel (v0.mCells != v1.mCells)
    (some false)
    (some true)))
def l_eqStep (N : Nat) (v0 : Gx.Step) (v1 : Gx.Step) : Option (Bool) :=
 sel (v0.mKind != v1.mKind)
  (some false)
  (sel (v0.mWord != v1.mWord)
   (some false)
   (sel (v0.mA != v1.mA)
    (some false)
    (sel (v0.mB != v1.mB)
     (some false)
     (some true))))
def l_eqStepS_L1 (N : Nat) (v0 : List (Gx.Step)) (v1 : List (Gx.Step)) (p1 : Int) : Option (Sum (Int) (Cut (Unit) (Bool))) :=
 sel (decide (p1 < (v0.length : Int)))
  (bnd (getI v0 p1) fun x1 =>
  bnd (getI v1 p1) fun x2 =>
  bnd (l_eqStep N x1 x2) fun x3 =>
  sel (!x3)
   (some (.inr (.rt (false))))
   (some (.inl (w64 (p1 + 1)))))
  (some (.inr (.nx ())))
def l_eqStepS (N : Nat) (v0 : List (Gx.Step)) (v1 : List (Gx.Step)) : Option (Bool) :=
 sel ((v0.length : Int) != (v1.length : Int))
  (some false)
  (cutb (α := Unit) (
   loopN (l_eqStepS_L1 N v0 v1) N 0) fun t4 =>
  some true)
def l_eqClue (N : Nat) (v0 : Gx.Clue) (v1 : Gx.Clue) : Option (Bool) :=
 sel (v0.mSense != v1.mSense)
  (some false)
  (bnd (l_eqStepS N v0.mPlay v1.mPlay) fun x1 =>
  sel (!x1)
   (some false)
   (some true))
def l_eqListed (N : Nat) (v0 : Gx.Listed) (v1 : Gx.Listed) : Option (Bool) :=
 sel (v0.mWord != v1.mWord)
  (some false)
  (sel (v0.mFrom != v1.mFrom)
   (some false)
   (sel (v0.mUntil != v1.mUntil)
    (some false)
    (sel (v0.mScore != v1.mScore)
     (some false)
     (some true))))
def l_eqMeaning (N : Nat) (v0 : Gx.Meaning) (v1 : Gx.Meaning) : Option (Bool) :=
 sel (v0.mWord != v1.mWord)
  (some false)
  (sel (v0.mSense != v1.mSense)
   (some false)
   (some true))
def l_eqEvent (N : Nat) (v0 : Gx.Event) (v1 : Gx.Event) : Option (Bool) :=
 sel (v0.mKind != v1.mKind)
  (some false)
  (sel (v0.mA != v1.mA)
   (some false)
   (sel (v0.mB != v1.mB)
    (some false)
    (sel (v0.mC != v1.mC)
     (some false)
     (sel (v0.mText != v1.mText)
      (some false)
      (bnd (l_eqGrid N v0.mGrid v1.mGrid) fun x1 =>
      sel (!x1)
       (some false)
       (bnd (l_eqClue N v0.mClue v1.mClue) fun x2 =>
       sel (!x2)
        (some false)
        (bnd (l_eqListed N v0.mListed v1.mListed) fun x3 =>
        sel (!x3)
         (some false)
         (bnd (l_eqMeaning N v0.mMeaning v1.mMeaning) fun x4 =>
         sel (!x4)
          (some false)
          (some true)))))))))
def l_eqEventS_L1 (N : Nat) (v0 : List (Gx.Event)) (v1 : List (Gx.Event)) (p1 : Int) : Option (Sum (Int) (Cut (Unit) (Bool))) :=
 sel (decide (p1 < (v0.length : Int)))
  (bnd (getI v0 p1) fun x1 =>
  bnd (getI v1 p1) fun x2 =>
  bnd (l_eqEvent N x1 x2) fun x3 =>
  sel (!x3)
   (some (.inr (.rt (false))))
   (some (.inl (w64 (p1 + 1)))))
  (some (.inr (.nx ())))
def l_eqEventS (N : Nat) (v0 : List (Gx.Event)) (v1 : List (Gx.Event)) : Option (Bool) :=
 sel ((v0.length : Int) != (v1.length : Int))
  (some false)
  (cutb (α := Unit) (
   loopN (l_eqEventS_L1 N v0 v1) N 0) fun t4 =>
  some true)
def l_eqClueS_L1 (N : Nat) (v0 : List (Gx.Clue)) (v1 : List (Gx.Clue)) (p1 : Int) : Option (Sum (Int) (Cut (Unit) (Bool))) :=
 sel (decide (p1 < (v0.length : Int)))
  (bnd (getI v0 p1) fun x1 =>
  bnd (getI v1 p1) fun x2 =>
  bnd (l_eqClue N x1 x2) fun x3 =>
  sel (!x3)
   (some (.inr (.rt (false))))
   (some (.inl (w64 (p1 + 1)))))
  (some (.inr (.nx ())))
def l_eqClueS (N : Nat) (v0 : List (Gx.Clue)) (v1 : List (Gx.Clue)) : Option (Bool) :=
 sel ((v0.length : Int) != (v1.length : Int))
  (some false)
  (cutb (α := Unit) (
   loopN (l_eqClueS_L1 N v0 v1) N 0) fun t4 =>
  some true)
def l_markText_L1 (N : Nat) (p1 : Int × (List UInt8)) : Option (Sum (Int × (List UInt8)) ((List UInt8))) :=
 sel (decide (p1.1 > 0))
  (chk ((10 : Int) ≠ 0) <|
  chk (([UInt8.ofInt (IntKind.u8.wrap (w64 (48 + (Int.tmod p1.1 10))))]).length + p1.2.length ≤ 274877906944) <|
  chk ((10 : Int) ≠ 0) <|
  some (.inl (w64 (Int.tdiv p1.1 10), ([UInt8.ofInt (IntKind.u8.wrap (w64 (48 + (Int.tmod p1.1 10))))]) ++ p1.2)))
  (some (.inr (p1.2)))
def l_markText (N : Nat) (v0 : Int) : Option ((List UInt8)) :=
 sel (decide (v0 ≤ 0))
  (some ([109, 48] : List UInt8))
  (bnd (α := (List UInt8)) (
   loopN (l_markText_L1 N) N (v0, ([] : List UInt8))) fun t1 =>
  chk (([109] : List UInt8).length + t1.length ≤ 274877906944) <|
  some (([109] : List UInt8) ++ t1))
def l_markStepS_L1 (N : Nat) (p1 : (List (Gx.Step)) × Int × Int) : Option (Sum ((List (Gx.Step)) × Int × Int) ((List (Gx.Step)) × Int)) :=
 sel (decide (p1.2.2 < (p1.1.length : Int)))
  (bnd (getI p1.1 p1.2.2) fun x1 =>
  bnd (l_markText N (w64 (p1.2.1 + 1))) fun x2 =>
  bnd (getI (List.set p1.1 (Int.toNat p1.2.2) (⟨p1.2.1, x1.mWord, x1.mA, x1.mB⟩ : Gx.Step)) p1.2.2) fun x3 =>
  bnd (getI (List.set p1.1 (Int.toNat p1.2.2) (⟨x3.mKind, x2, x3.mA, x3.mB⟩ : Gx.Step)) p1.2.2) fun x4 =>
  bnd (getI (List.set p1.1 (Int.toNat p1.2.2) (⟨x4.mKind, x4.mWord, w64 ((w64 (p1.2.1 + 1)) + 1), x4.mB⟩ : Gx.Step)) p1.2.2) fun x5 =>
  some (.inl (List.set p1.1 (Int.toNat p1.2.2) (⟨x5.mKind, x5.mWord, x5.mA, w64 ((w64 ((w64 (p1.2.1 + 1)) + 1)) + 1)⟩ : Gx.Step), w64 ((w64 ((w64 ((w64 (p1.2.1 + 1)) + 1)) + 1)) + 1), w64 (p1.2.2 + 1))))
  (some (.inr ((p1.1, p1.2.1))))
def l_markStepS (N : Nat) (v0 : List (Gx.Step)) (v1 : Int) : Option ((List (Gx.Step)) × Int) :=
 bnd (α := (List (Gx.Step)) × Int) (
  loopN (l_markStepS_L1 N) N (v0, v1, 0)) fun t6 =>
 some (t6.1, t6.2)
def l_markClueS_L1 (N : Nat) (p1 : (List (Gx.Clue)) × Int × Int) : Option (Sum ((List (Gx.Clue)) × Int × Int) ((List (Gx.Clue)) × Int)) :=
 sel (decide (p1.2.2 < (p1.1.length : Int)))
  (bnd (getI p1.1 p1.2.2) fun x1 =>
  bnd (getI (List.set p1.1 (Int.toNat p1.2.2) (⟨p1.2.1, x1.mPlay⟩ : Gx.Clue)) p1.2.2) fun x2 =>
  bnd (l_markStepS N x2.mPlay (w64 (p1.2.1 + 1))) fun x3 =>
  some (.inl (List.set p1.1 (Int.toNat p1.2.2) (⟨x2.mSense, x3.1⟩ : Gx.Clue), x3.2, w64 (p1.2.2 + 1))))
  (some (.inr ((p1.1, p1.2.1))))
def l_markClueS (N : Nat) (v0 : List (Gx.Clue)) (v1 : Int) : Option ((List (Gx.Clue)) × Int) :=
 bnd (α := (List (Gx.Clue)) × Int) (
  loopN (l_markClueS_L1 N) N (v0, v1, 0)) fun t4 =>
 some (t4.1, t4.2)
def l_markEventS_L1 (N : Nat) (p1 : (List (Gx.Event)) × Int × Int) : Option (Sum ((List (Gx.Event)) × Int × Int) ((List (Gx.Event)) × Int)) :=
 sel (decide (p1.2.2 < (p1.1.length : Int)))
  (bnd (getI p1.1 p1.2.2) fun x1 =>
  bnd (getI (List.set p1.1 (Int.toNat p1.2.2) (⟨p1.2.1, x1.mA, x1.mB, x1.mC, x1.mText, (⟨x1.mGrid.mRows, x1.mGrid.mCols, x1.mGrid.mCells⟩ : Gx.Grid), (⟨x1.mClue.mSense, x1.mClue.mPlay⟩ : Gx.Clue), (⟨x1.mListed.mWord, x1.mListed.mFrom, x1.mListed.mUntil, x1.mListed.mScore⟩ : Gx.Listed), (⟨x1.mMeaning.mWord, x1.mMeaning.mSense⟩ : Gx.Meaning)⟩ : Gx.Event)) p1.2.2) fun x2 =>
  bnd (getI (List.set p1.1 (Int.toNat p1.2.2) (⟨x2.mKind, w64 (p1.2.1 + 1), x2.mB, x2.mC, x2.mText, (⟨x2.mGrid.mRows, x2.mGrid.mCols, x2.mGrid.mCells⟩ : Gx.Grid), (⟨x2.mClue.mSense, x2.mClue.mPlay⟩ : Gx.Clue), (⟨x2.mListed.mWord, x2.mListed.mFrom, x2.mListed.mUntil, x2.mListed.mScore⟩ : Gx.Listed), (⟨x2.mMeaning.mWord, x2.mMeaning.mSense⟩ : Gx.Meaning)⟩ : Gx.Event)) p1.2.2) fun x3 =>
  bnd (getI (List.set p1.1 (Int.toNat p1.2.2) (⟨x3.mKind, x3.mA, w64 ((w64 (p1.2.1 + 1)) + 1), x3.mC, x3.mText, (⟨x3.mGrid.mRows, x3.mGrid.mCols, x3.mGrid.mCells⟩ : Gx.Grid), (⟨x3.mClue.mSense, x3.mClue.mPlay⟩ : Gx.Clue), (⟨x3.mListed.mWord, x3.mListed.mFrom, x3.mListed.mUntil, x3.mListed.mScore⟩ : Gx.Listed), (⟨x3.mMeaning.mWord, x3.mMeaning.mSense⟩ : Gx.Meaning)⟩ : Gx.Event)) p1.2.2) fun x4 =>
  bnd (l_markText N (w64 ((w64 ((w64 ((w64 (p1.2.1 + 1)) + 1)) + 1)) + 1))) fun x5 =>
  bnd (getI (List.set p1.1 (Int.toNat p1.2.2) (⟨x4.mKind, x4.mA, x4.mB, w64 ((w64 ((w64 (p1.2.1 + 1)) + 1)) + 1), x4.mText, (⟨x4.mGrid.mRows, x4.mGrid.mCols, x4.mGrid.mCells⟩ : Gx.Grid), (⟨x4.mClue.mSense, x4.mClue.mPlay⟩ : Gx.Clue), (⟨x4.mListed.mWord, x4.mListed.mFrom, x4.mListed.mUntil, x4.mListed.mScore⟩ : Gx.Listed), (⟨x4.mMeaning.mWord, x4.mMeaning.mSense⟩ : Gx.Meaning)⟩ : Gx.Event)) p1.2.2) fun x6 =>
  bnd (getI (List.set p1.1 (Int.toNat p1.2.2) (⟨x6.mKind, x6.mA, x6.mB, x6.mC, x5, (⟨x6.mGrid.mRows, x6.mGrid.mCols, x6.mGrid.mCells⟩ : Gx.Grid), (⟨x6.mClue.mSense, x6.mClue.mPlay⟩ : Gx.Clue), (⟨x6.mListed.mWord, x6.mListed.mFrom, x6.mListed.mUntil, x6.mListed.mScore⟩ : Gx.Listed), (⟨x6.mMeaning.mWord, x6.mMeaning.mSense⟩ : Gx.Meaning)⟩ : Gx.Event)) p1.2.2) fun x7 =>
  bnd (getI (List.set p1.1 (Int.toNat p1.2.2) (⟨x7.mKind, x7.mA, x7.mB, x7.mC, x7.mText, (⟨w64 ((w64 ((w64 ((w64 ((w64 (p1.2.1 + 1)) + 1)) + 1)) + 1)) + 1), x7.mGrid.mCols, x7.mGrid.mCells⟩ : Gx.Grid), (⟨x7.mClue.mSense, x7.mClue.mPlay⟩ : Gx.Clue), (⟨x7.mListed.mWord, x7.mListed.mFrom, x7.mListed.mUntil, x7.mListed.mScore⟩ : Gx.Listed), (⟨x7.mMeaning.mWord, x7.mMeaning.mSense⟩ : Gx.Meaning)⟩ : Gx.Event)) p1.2.2) fun x8 =>
  bnd (l_markText N (w64 ((w64 ((w64 ((w64 ((w64 ((w64 ((w64 (p1.2.1 + 1)) + 1)) + 1)) + 1)) + 1)) + 1)) + 1))) fun x9 =>
  bnd (getI (List.set p1.1 (Int.toNat p1.2.2) (⟨x8.mKind, x8.mA, x8.mB, x8.mC, x8.mText, (⟨x8.mGrid.mRows, w64 ((w64 ((w64 ((w64 ((w64 ((w64 (p1.2.1 + 1)) + 1)) + 1)) + 1)) + 1)) + 1), x8.mGrid.mCells⟩ : Gx.Grid), (⟨x8.mClue.mSense, x8.mClue.mPlay⟩ : Gx.Clue), (⟨x8.mListed.mWord, x8.mListed.mFrom, x8.mListed.mUntil, x8.mListed.mScore⟩ : Gx.Listed), (⟨x8.mMeaning.mWord, x8.mMeaning.mSense⟩ : Gx.Meaning)⟩ : Gx.Event)) p1.2.2) fun x10 =>
  bnd (getI (List.set p1.1 (Int.toNat p1.2.2) (⟨x10.mKind, x10.mA, x10.mB, x10.mC, x10.mText, (⟨x10.mGrid.mRows, x10.mGrid.mCols, x9⟩ : Gx.Grid), (⟨x10.mClue.mSense, x10.mClue.mPlay⟩ : Gx.Clue), (⟨x10.mListed.mWord, x10.mListed.mFrom, x10.mListed.mUntil, x10.mListed.mScore⟩ : Gx.Listed), (⟨x10.mMeaning.mWord, x10.mMeaning.mSense⟩ : Gx.Meaning)⟩ : Gx.Event)) p1.2.2) fun x11 =>
  bnd (getI (List.set p1.1 (Int.toNat p1.2.2) (⟨x11.mKind, x11.mA, x11.mB, x11.mC, x11.mText, (⟨x11.mGrid.mRows, x11.mGrid.mCols, x11.mGrid.mCells⟩ : Gx.Grid), (⟨w64 ((w64 ((w64 ((w64 ((w64 ((w64 ((w64 ((w64 (p1.2.1 + 1)) + 1)) + 1)) + 1)) + 1)) + 1)) + 1)) + 1), x11.mClue.mPlay⟩ : Gx.Clue), (⟨x11.mListed.mWord, x11.mListed.mFrom, x11.mListed.mUntil, x11.mListed.mScore⟩ : Gx.Listed), (⟨x11.mMeaning.mWord, x11.mMeaning.mSense⟩ : Gx.Meaning)⟩ : Gx.Event)) p1.2.2) fun x12 =>
  bnd (l_markStepS N x12.mClue.mPlay (w64 ((w64 ((w64 ((w64 ((w64 ((w64 ((w64 ((w64 ((w64 (p1.2.1 + 1)) + 1)) + 1)) + 1)) + 1)) + 1)) + 1)) + 1)) + 1))) fun x13 =>
  bnd (l_markText N x13.2) fun x14 =>
  bnd (getI (List.set p1.1 (Int.toNat p1.2.2) (⟨x12.mKind, x12.mA, x12.mB, x12.mC, x12.mText, (⟨x12.mGrid.mRows, x12.mGrid.mCols, x12.mGrid.mCells⟩ : Gx.Grid), (⟨x12.mClue.mSense, x13.1⟩ : Gx.Clue), (⟨x12.mListed.mWord, x12.mListed.mFrom, x12.mListed.mUntil, x12.mListed.mScore⟩ : Gx.Listed), (⟨x12.mMeaning.mWord, x12.mMeaning.mSense⟩ : Gx.Meaning)⟩ : Gx.Event)) p1.2.2) fun x15 =>
  bnd (getI (List.set p1.1 (Int.toNat p1.2.2) (⟨x15.mKind, x15.mA, x15.mB, x15.mC, x15.mText, (⟨x15.mGrid.mRows, x15.mGrid.mCols, x15.mGrid.mCells⟩ : Gx.Grid), (⟨x15.mClue.mSense, x15.mClue.mPlay⟩ : Gx.Clue), (⟨x14, x15.mListed.mFrom, x15.mListed.mUntil, x15.mListed.mScore⟩ : Gx.Listed), (⟨x15.mMeaning.mWord, x15.mMeaning.mSense⟩ : Gx.Meaning)⟩ : Gx.Event)) p1.2.2) fun x16 =>
  bnd (getI (List.set p1.1 (Int.toNat p1.2.2) (⟨x16.mKind, x16.mA, x16.mB, x16.mC, x16.mText, (⟨x16.mGrid.mRows, x16.mGrid.mCols, x16.mGrid.mCells⟩ : Gx.Grid), (⟨x16.mClue.mSense, x16.mClue.mPlay⟩ : Gx.Clue), (⟨x16.mListed.mWord, w64 (x13.2 + 1), x16.mListed.mUntil, x16.mListed.mScore⟩ : Gx.Listed), (⟨x16.mMeaning.mWord, x16.mMeaning.mSense⟩ : Gx.Meaning)⟩ : Gx.Event)) p1.2.2) fun x17 =>
  bnd (getI (List.set p1.1 (Int.toNat p1.2.2) (⟨x17.mKind, x17.mA, x17.mB, x17.mC, x17.mText, (⟨x17.mGrid.mRows, x17.mGrid.mCols, x17.mGrid.mCells⟩ : Gx.Grid), (⟨x17.mClue.mSense, x17.mClue.mPlay⟩ : Gx.Clue), (⟨x17.mListed.mWord, x17.mListed.mFrom, w64 ((w64 (x13.2 + 1)) + 1), x17.mListed.mScore⟩ : Gx.Listed), (⟨x17.mMeaning.mWord, x17.mMeaning.mSense⟩ : Gx.Meaning)⟩ : Gx.Event)) p1.2.2) fun x18 =>
  bnd (l_markText N (w64 ((w64 ((w64 ((w64 (x13.2 + 1)) + 1)) + 1)) + 1))) fun x19 =>
  bnd (getI (List.set p1.1 (Int.toNat p1.2.2) (⟨x18.mKind, x18.mA, x18.mB, x18.mC, x18.mText, (⟨x18.mGrid.mRows, x18.mGrid.mCols, x18.mGrid.mCells⟩ : Gx.Grid), (⟨x18.mClue.mSense, x18.mClue.mPlay⟩ : Gx.Clue), (⟨x18.mListed.mWord, x18.mListed.mFrom, x18.mListed.mUntil, w64 ((w64 ((w64 (x13.2 + 1)) + 1)) + 1)⟩ : Gx.Listed), (⟨x18.mMeaning.mWord, x18.mMeaning.mSense⟩ : Gx.Meaning)⟩ : Gx.Event)) p1.2.2) fun x20 =>
  bnd (getI (List.set p1.1 (Int.toNat p1.2.2) (⟨x20.mKind, x20.mA, x20.mB, x20.mC, x20.mText, (⟨x20.mGrid.mRows, x20.mGrid.mCols, x20.mGrid.mCells⟩ : Gx.Grid), (⟨x20.mClue.mSense, x20.mClue.mPlay⟩ : Gx.Clue), (⟨x20.mListed.mWord, x20.mListed.mFrom, x20.mListed.mUntil, x20.mListed.mScore⟩ : Gx.Listed), (⟨x19, x20.mMeaning.mSense⟩ : Gx.Meaning)⟩ : Gx.Event)) p1.2.2) fun x21 =>
  some (.inl (List.set p1.1 (Int.toNat p1.2.2) (⟨x21.mKind, x21.mA, x21.mB, x21.mC, x21.mText, (⟨x21.mGrid.mRows, x21.mGrid.mCols, x21.mGrid.mCells⟩ : Gx.Grid), (⟨x21.mClue.mSense, x21.mClue.mPlay⟩ : Gx.Clue), (⟨x21.mListed.mWord, x21.mListed.mFrom, x21.mListed.mUntil, x21.mListed.mScore⟩ : Gx.Listed), (⟨x21.mMeaning.mWord, w64 ((w64 ((w64 ((w64 ((w64 (x13.2 + 1)) + 1)) + 1)) + 1)) + 1)⟩ : Gx.Meaning)⟩ : Gx.Event), w64 ((w64 ((w64 ((w64 ((w64 ((w64 (x13.2 + 1)) + 1)) + 1)) + 1)) + 1)) + 1), w64 (p1.2.2 + 1))))
  (some (.inr ((p1.1, p1.2.1))))
def l_markEventS (N : Nat) (v0 : List (Gx.Event)) (v1 : Int) : Option ((List (Gx.Event)) × Int) :=
 bnd (α := (List (Gx.Event)) × Int) (
  loopN (l_markEventS_L1 N) N (v0, v1, 0)) fun t22 =>
 some (t22.1, t22.2)
def l_heldStepS_L1 (N : Nat) (v0 : List (Gx.Step)) (p1 : Int × Int) : Option (Sum (Int × Int) (Cut (Int) (Int))) :=
 sel (decide (p1.2 < (v0.length : Int)))
  (bnd (getI v0 p1.2) fun x1 =>
  sel (x1.mKind != p1.1)
   (some (.inr (.rt ((-1)))))
   (bnd (getI v0 p1.2) fun x2 =>
   bnd (l_markText N (w64 (p1.1 + 1))) fun x3 =>
   sel (x2.mWord != x3)
    (some (.inr (.rt ((-1)))))
    (bnd (getI v0 p1.2) fun x4 =>
    sel (x4.mA != (w64 ((w64 (p1.1 + 1)) + 1)))
     (some (.inr (.rt ((-1)))))
     (bnd (getI v0 p1.2) fun x5 =>
     sel (x5.mB != (w64 ((w64 ((w64 (p1.1 + 1)) + 1)) + 1)))
      (some (.inr (.rt ((-1)))))
      (some (.inl (w64 ((w64 ((w64 ((w64 (p1.1 + 1)) + 1)) + 1)) + 1), w64 (p1.2 + 1))))))))
  (some (.inr (.nx p1.1)))
def l_heldStepS (N : Nat) (v0 : List (Gx.Step)) (v1 : Int) : Option (Int) :=
 cutb (α := Int) (
  loopN (l_heldStepS_L1 N v0) N (v1, 0)) fun t6 =>
 some t6
def l_heldEventS_L1 (N : Nat) (v0 : List (Gx.Event)) (p1 : Int × Int) : Option (Sum (Int × Int) (Cut (Int) (Int))) :=
 sel (decide (p1.2 < (v0.length : Int)))
  (bnd (getI v0 p1.2) fun x1 =>
  sel (x1.mKind != p1.1)
   (some (.inr (.rt ((-1)))))
   (bnd (getI v0 p1.2) fun x2 =>
   sel (x2.mA != (w64 (p1.1 + 1)))
    (some (.inr (.rt ((-1)))))
    (bnd (getI v0 p1.2) fun x3 =>
    sel (x3.mB != (w64 ((w64 (p1.1 + 1)) + 1)))
     (some (.inr (.rt ((-1)))))
     (bnd (getI v0 p1.2) fun x4 =>
     sel (x4.mC != (w64 ((w64 ((w64 (p1.1 + 1)) + 1)) + 1)))
      (some (.inr (.rt ((-1)))))
      (bnd (getI v0 p1.2) fun x5 =>
      bnd (l_markText N (w64 ((w64 ((w64 ((w64 (p1.1 + 1)) + 1)) + 1)) + 1))) fun x6 =>
      sel (x5.mText != x6)
       (some (.inr (.rt ((-1)))))
       (bnd (getI v0 p1.2) fun x7 =>
       sel (x7.mGrid.mRows != (w64 ((w64 ((w64 ((w64 ((w64 (p1.1 + 1)) + 1)) + 1)) + 1)) + 1)))
        (some (.inr (.rt ((-1)))))
        (bnd (getI v0 p1.2) fun x8 =>
        sel (x8.mGrid.mCols != (w64 ((w64 ((w64 ((w64 ((w64 ((w64 (p1.1 + 1)) + 1)) + 1)) + 1)) + 1)) + 1)))
         (some (.inr (.rt ((-1)))))
         (bnd (getI v0 p1.2) fun x9 =>
         bnd (l_markText N (w64 ((w64 ((w64 ((w64 ((w64 ((w64 ((w64 (p1.1 + 1)) + 1)) + 1)) + 1)) + 1)) + 1)) + 1))) fun x10 =>
         sel (x9.mGrid.mCells != x10)
          (some (.inr (.rt ((-1)))))
          (bnd (getI v0 p1.2) fun x11 =>
          sel (x11.mClue.mSense != (w64 ((w64 ((w64 ((w64 ((w64 ((w64 ((w64 ((w64 (p1.1 + 1)) + 1)) + 1)) + 1)) + 1)) + 1)) + 1)) + 1)))
           (some (.inr (.rt ((-1)))))
           (bnd (getI v0 p1.2) fun x12 =>
           bnd (l_heldStepS N x12.mClue.mPlay (w64 ((w64 ((w64 ((w64 ((w64 ((w64 ((w64 ((w64 ((w64 (p1.1 + 1)) + 1)) + 1)) + 1)) + 1)) + 1)) + 1)) + 1)) + 1))) fun x13 =>
           sel (decide (x13 < 0))
            (some (.inr (.rt ((-1)))))
            (bnd (getI v0 p1.2) fun x14 =>
            bnd (l_markText N x13) fun x15 =>
            sel (x14.mListed.mWord != x15)
             (some (.inr (.rt ((-1)))))
             (bnd (getI v0 p1.2) fun x16 =>
             sel (x16.mListed.mFrom != (w64 (x13 + 1)))
              (some (.inr (.rt ((-1)))))
              (bnd (getI v0 p1.2) fun x17 =>
              sel (x17.mListed.mUntil != (w64 ((w64 (x13 + 1)) + 1)))
               (some (.inr (.rt ((-1)))))
               (bnd (getI v0 p1.2) fun x18 =>
               sel (x18.mListed.mScore != (w64 ((w64 ((w64 (x13 + 1)) + 1)) + 1)))
                (some (.inr (.rt ((-1)))))
                (bnd (getI v0 p1.2) fun x19 =>
                bnd (l_markText N (w64 ((w64 ((w64 ((w64 (x13 + 1)) + 1)) + 1)) + 1))) fun x20 =>
                sel (x19.mMeaning.mWord != x20)
                 (some (.inr (.rt ((-1)))))
                 (bnd (getI v0 p1.2) fun x21 =>
                 sel (x21.mMeaning.mSense != (w64 ((w64 ((w64 ((w64 ((w64 (x13 + 1)) + 1)) + 1)) + 1)) + 1)))
                  (some (.inr (.rt ((-1)))))
                  (some (.inl (w64 ((w64 ((w64 ((w64 ((w64 ((w64 (x13 + 1)) + 1)) + 1)) + 1)) + 1)) + 1), w64 (p1.2 + 1))))))))))))))))))))
  (some (.inr (.nx p1.1)))
def l_heldEventS (N : Nat) (v0 : List (Gx.Event)) (v1 : Int) : Option (Int) :=
 cutb (α := Int) (
  loopN (l_heldEventS_L1 N v0) N (v1, 0)) fun t22 =>
 some t22
def l_FnExactDeskEvents (N : Nat) (v0 : Gx.Grid) (v1 : List UInt8) (v2 : List (Gx.Clue)) : Option (Bool) :=
 sel (decide ((v1.length : Int) > 1048576))
  (some true)
  (bnd (l_szGrid N v0 1048576) fun x1 =>
  sel (decide (x1 < 0))
   (some true)
   (bnd (l_szClueS N v2 x1) fun x2 =>
   sel (decide (x2 < 0))
    (some true)
    (bnd (l_toGrid N v0) fun x3 =>
    bnd (l_toClueS N v2) fun x4 =>
    bnd (s_DeskEvents N x3 v1 x4) fun x5 =>
    bnd (l_toClueS N v2) fun x6 =>
    bnd (l_toGrid N v0) fun x7 =>
    bnd (i_DeskEvents N x7 v1 x6) fun x8 =>
    bnd (l_eqEventS N x8 x5) fun x9 =>
    sel (!x9)
     (some false)
     (bnd (l_toClueS N v2) fun x10 =>
     bnd (l_eqClueS N x6 x10) fun x11 =>
     sel (!x11)
      (some false)
      (bnd (l_markClueS N x6 1) fun x12 =>
      sel (decide (x12.2 < 0))
       (some false)
       (bnd (l_eqEventS N x8 x5) fun x13 =>
       sel (!x13)
        (some false)
        (bnd (l_markEventS N x8 1) fun x14 =>
        bnd (l_heldEventS N x14.1 1) fun x15 =>
        sel (decide (x15 < 0))
         (some false)
         (sel (x15 != x14.2)
          (some false)
          (bnd (l_toGrid N v0) fun x16 =>
          bnd (l_toClueS N v2) fun x17 =>
          bnd (i_DeskEvents N x16 v1 x17) fun x18 =>
          bnd (l_eqEventS N x18 x5) fun x19 =>
          sel (!x19)
           (some false)
           (bnd (l_heldEventS N x14.1 1) fun x20 =>
           sel (decide (x20 < 0))
            (some false)
            (sel (x20 != x14.2)
             (some false)
             (some true))))))))))))
end Lw
end Go.Proofs
