/- PRINTED BY gen.py (mine): the functions that the law reaches, as plain functions. -/
import Derived.Test.YtgmppfmemimkkaaDoorAvLp
import Derived.Lib.Join
namespace Go.Proofs
open Go Go.Av
set_option maxRecDepth 100000
set_option maxHeartbeats 40000000
set_option linter.unusedVariables false
set_option linter.unusedSimpArgs false
namespace Lw
def g_strconv_Itoa (N : Nat) (n : Int) : Option (List UInt8) := chk (-9223372036854775808 ≤ n ∧ n ≤ 9223372036854775807) (some (Lib.itoa n))
def g_strings_Join (N : Nat) (l : List (List UInt8)) (sep : List UInt8) : Option (List UInt8) := chk (l.length ≤ 274877906944 ∧ (Lib.join l sep).length ≤ 274877906944) (some (Lib.join l sep))
def l_toIntS_L1 (N : Nat) (v0 : List (Int)) (p1 : (List (Int)) × Int) : Option (Sum ((List (Int)) × Int) ((List (Int)))) :=
 sel (decide (p1.2 < (v0.length : Int)))
  (bnd (getI v0 p1.2) fun x1 =>
  bnd (getI p1.1 p1.2) fun x2 =>
  some (.inl (List.set p1.1 (Int.toNat p1.2) x1, w64 (p1.2 + 1))))
  (some (.inr (p1.1)))
def l_toIntS (N : Nat) (v0 : List (Int)) : Option ((List (Int))) :=
 chk (0 ≤ (v0.length : Int) ∧ (v0.length : Int) ≤ 274877906944) <|
 bnd (α := (List (Int))) (
  loopN (l_toIntS_L1 N v0) N (List.replicate (Int.toNat (v0.length : Int)) 0, 0)) fun t3 =>
 some t3
def s_FormatInt_L1 (N : Nat) (p1 : (List UInt8) × Int) : Option (Sum ((List UInt8) × Int) ((List UInt8))) :=
 sel (p1.2 != 0)
  (chk ((10 : Int) ≠ 0) <|
  bnd (α := Int) (
   sel (decide ((Int.tmod p1.2 10) < 0))
    (some (w64 (0 - (Int.tmod p1.2 10))))
    (some (Int.tmod p1.2 10))) fun t1 =>
  chk (([UInt8.ofInt (IntKind.u8.wrap (w64 (48 + t1)))]).length + p1.1.length ≤ 274877906944) <|
  chk ((10 : Int) ≠ 0) <|
  some (.inl (([UInt8.ofInt (IntKind.u8.wrap (w64 (48 + t1)))]) ++ p1.1, w64 (Int.tdiv p1.2 10))))
  (some (.inr (p1.1)))
def s_FormatInt (N : Nat) (v0 : Int) : Option ((List UInt8)) :=
 sel (v0 == 0)
  (some ([48] : List UInt8))
  (bnd (α := (List UInt8)) (
   loopN (s_FormatInt_L1 N) N (([] : List UInt8), v0)) fun t2 =>
  sel (decide (v0 < 0))
   (chk (([45] : List UInt8).length + t2.length ≤ 274877906944) <|
   some (([45] : List UInt8) ++ t2))
   (some t2))
def s_l39Join_L1 (N : Nat) (v0 : List (List UInt8)) (v1 : List UInt8) (p1 : (List UInt8) × Int) : Option (Sum ((List UInt8) × Int) ((List UInt8))) :=
 sel (decide (p1.2 < (v0.length : Int)))
  (bnd (α := (List UInt8)) (
   sel (decide (p1.2 > 0))
    (chk (p1.1.length + v1.length ≤ 274877906944) <|
    some (p1.1 ++ v1))
    (some p1.1)) fun t1 =>
  bnd (getI v0 p1.2) fun x2 =>
  chk (t1.length + x2.length ≤ 274877906944) <|
  some (.inl (t1 ++ x2, w64 (p1.2 + 1))))
  (some (.inr (p1.1)))
def s_l39Join (N : Nat) (v0 : List (List UInt8)) (v1 : List UInt8) : Option ((List UInt8)) :=
 bnd (α := (List UInt8)) (
  loopN (s_l39Join_L1 N v0 v1) N (([] : List UInt8), 0)) fun t3 =>
 sel ((v0.length : Int) == 0)
  (some ([45] : List UInt8))
  (some t3)
def s_FormatNumbers_L1 (N : Nat) (v0 : List (Int)) (p1 : (List (List UInt8)) × Int) : Option (Sum ((List (List UInt8)) × Int) ((List (List UInt8)))) :=
 sel (decide (p1.2 < (v0.length : Int)))
  (bnd (getI v0 p1.2) fun x1 =>
  bnd (s_FormatInt N x1) fun x2 =>
  chk (p1.1.length + ([x2]).length ≤ 274877906944) <|
  some (.inl (p1.1 ++ ([x2]), w64 (p1.2 + 1))))
  (some (.inr (p1.1)))
def s_FormatNumbers (N : Nat) (v0 : List (Int)) : Option ((List UInt8)) :=
 bnd (α := (List (List UInt8))) (
  loopN (s_FormatNumbers_L1 N v0) N ([], 0)) fun t3 =>
 bnd (s_l39Join N t3 ([32] : List UInt8)) fun x4 =>
 some x4
def i_FormatInt (N : Nat) (v0 : Int) : Option ((List UInt8)) :=
 bnd (g_strconv_Itoa N v0) fun x1 =>
 some x1
def i_orDash (N : Nat) (v0 : List (List UInt8)) (v1 : List UInt8) : Option ((List UInt8)) :=
 sel ((v0.length : Int) == 0)
  (some ([45] : List UInt8))
  (bnd (g_strings_Join N v0 v1) fun x1 =>
  some x1)
def i_FormatNumbers_L1 (N : Nat) (v0 : List (Int)) (p1 : (List (List UInt8)) × Int) : Option (Sum ((List (List UInt8)) × Int) ((List (List UInt8)))) :=
 sel (decide (p1.2 < (v0.length : Int)))
  (bnd (getI v0 p1.2) fun x1 =>
  bnd (i_FormatInt N x1) fun x2 =>
  chk (p1.1.length + ([x2]).length ≤ 274877906944) <|
  some (.inl (p1.1 ++ ([x2]), w64 (p1.2 + 1))))
  (some (.inr (p1.1)))
def i_FormatNumbers (N : Nat) (v0 : List (Int)) : Option ((List UInt8)) :=
 bnd (α := (List (List UInt8))) (
  loopN (i_FormatNumbers_L1 N v0) N ([], 0)) fun t3 =>
 bnd (i_orDash N t3 ([32] : List UInt8)) fun x4 =>
 some x4
def l_eqIntS_L1 (N : Nat) (v0 : List (Int)) (v1 : List (Int)) (p1 : Int) : Option (Sum (Int) (Cut (Unit) (Bool))) :=
 sel (decide (p1 < (v0.length : Int)))
  (bnd (getI v0 p1) fun x1 =>
  bnd (getI v1 p1) fun x2 =>
  sel (x1 != x2)
   (some (.inr (.rt (false))))
   (some (.inl (w64 (p1 + 1)))))
  (some (.inr (.nx ())))
def l_eqIntS (N : Nat) (v0 : List (Int)) (v1 : List (Int)) : Option (Bool) :=
 sel ((v0.length : Int) != (v1.length : Int))
  (some false)
  (cutb (α := Unit) (
   loopN (l_eqIntS_L1 N v0 v1) N 0) fun t3 =>
  some true)
def l_FnExactFormatNumbers (N : Nat) (v0 : List (Int)) : Option (Bool) :=
 sel (decide ((v0.length : Int) > 1048576))
  (some true)
  (bnd (l_toIntS N v0) fun x1 =>
  bnd (s_FormatNumbers N x1) fun x2 =>
  bnd (l_toIntS N v0) fun x3 =>
  bnd (i_FormatNumbers N x3) fun x4 =>
  sel (x4 != x2)
   (some false)
   (bnd (l_toIntS N v0) fun x5 =>
   bnd (l_eqIntS N x3 x5) fun x6 =>
   sel (!x6)
    (some false)
    (some true)))
end Lw
end Go.Proofs
