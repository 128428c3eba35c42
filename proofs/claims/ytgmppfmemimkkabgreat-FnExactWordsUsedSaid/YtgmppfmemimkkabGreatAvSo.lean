/- ABSTRACT VALUES: slices.SortFunc of texts, over an object. -/
import Derived.Test.YtgmppfmemimkkabGreatAvOt
import Derived.Test.YtgmppfmemimkkabGreatAvTc
import Derived.Test.YtgmppfmemimkkabGreatAvW
import Derived.Sort.Grow
import Derived.Sort.Row
namespace Go.Av
open Go Go.Gx Go.RowKit
set_option linter.unusedVariables false
set_option linter.unusedSimpArgs false

abbrev encB (l : List UInt8) : Value := .string ⟨⟨l⟩⟩

/-- behind a sort: the block's cells hold the row; all else is as it was -/
structure SortedW (w w' : World) (b : Nat) (d : Array (List UInt8)) : Prop where
 os : w'.os = w.os
 tape : w'.tape = w.tape
 output : w'.output = w.output
 size : w.heap.size ≤ w'.heap.size
 other : ∀ k, k ≠ b → k < w.heap.size → w'.heap[k]? = w.heap[k]?
 cells : ∀ cs e fr, w.heap[b]? = some (.cells cs e fr) → w'.heap[b]? = some (.cells (Sort.putCells encB 0 d cs) e fr)

theorem sortedW_of {w : World} {b n : Nat} {d : Array (List UInt8)} {os : Array Obj} (hb : b < w.heap.size) : SortedW w (Sort.grow (Sort.putRow encB (Sort.ahead w n) b 0 d) os) b d where
 os := rfl
 tape := rfl
 output := rfl
 size := by
  show w.heap.size ≤ (w.heap.modify b _ ++ os).size
  simp
 other := fun k hk hlt => by
  show (w.heap.modify b _ ++ os)[k]? = _
  rw [Array.getElem?_append_left (by simpa using hlt), Array.getElem?_modify, if_neg (Ne.symm hk)]
 cells := fun cs e fr h => by
  show (w.heap.modify b _ ++ os)[b]? = _
  rw [Array.getElem?_append_left (by simpa using hb), Array.getElem?_modify, if_pos rfl, h]
  rfl

theorem flat_strsS (l : List (List UInt8)) (j : Nat) : (l.map encS).flatten.getD j default = (match l[j]? with | some s => D.s s | none => default) := by
 induction l generalizing j with
 | nil => simp
 | cons x l ih =>
  cases j with
  | zero => rfl
  | succ j => simpa [encS] using ih j

theorem turn_sort {P : Program} {F G : FuncId} (hfn : ∃ fn, P.funcs[F]? = some fn ∧ (fn.name == "runtime.NumGoroutine") = false ∧ fn.body.isNone = false) (srt : List (List UInt8) → List (List UInt8)) (hsl : ∀ l, (srt l).length = l.length)
  (H0 : ∀ (oa : Option Addr) (fv : Value) (w : World), Calls P F #[.slice oa 0 0, fv] w fun e w' => e = .returned (.tuple #[]) ∧ w' = w)
  (H : ∀ (b cap : Nat) (d : Array (List UInt8)) (w : World), Sort.Holds encB w b 0 d → b < w.heap.size → d.size < 4611686018427387904 →
   Calls P F #[.slice (some ⟨b, 0, none⟩) d.size cap, .func (.func G) #[] #[]] w fun e w' => e = .returned (.tuple #[]) ∧ SortedW w w' b (srt d.toList).toArray)
  (l : List (List UInt8)) (hl : l.length < 4611686018427387904) : Turn P F [.sl 0, .fn G []] [.arr 1 (l.map encS) true] [some (.arr 1 ((srt l).map encS) true)] (.tup []) where
 fn := hfn
 len := Nat.le_refl _
 kind := fun i k rows h => by
  cases i with
  | zero => simp at h
  | succ i => simp at h
 calls := fun w vs B S g R hP hlv hv => by
  match vs, hlv with
  | [v0, v1], _ =>
  have h0 : RV S (hp w) g (find (lay 0 ([AO.arr 1 (l.map encS) true].map some))) (· < [AO.arr 1 (l.map encS) true].length) (.sl 0) v0 := hv 0 (by simp)
  have h1 : RV S (hp w) g (find (lay 0 ([AO.arr 1 (l.map encS) true].map some))) (· < [AO.arr 1 (l.map encS) true].length) (.fn G []) v1 := hv 1 (by simp)
  have hm : find (lay 0 ([AO.arr 1 (l.map encS) true].map some)) 0 = some (.arr 1 (l.map encS) true) := rfl
  have hne : find (lay 0 ([AO.arr 1 (l.map encS) true].map some)) 0 ≠ none := by rw [hm]; simp
  have hoth : ∀ o', o' ≠ 0 → find (lay 0 ([AO.arr 1 (l.map encS) true].map some)) o' = none := fun o' ho => R.new o' (by simp; omega)
  have hro := R.obj 0 _ hm
  have hbd := R.bound 0 hne
  have e0 : v0 = (g 0).v := by
   cases h0 with | sl o v ho hh hv => exact hv hne
  have e1 : v1 = .func (.func G) #[] #[] := by
   cases h1 with
   | fn f cs vs hl hin =>
    cases vs with
    | nil => rfl
    | cons a r => simp at hl
  subst e0; subst e1
  generalize hG : g 0 = G0 at hro hbd ⊢
  generalize hr : l.map encS = rows at hro
  cases hro with
  | nil k b own oa hk =>
   have hl0 : l = [] := by simpa using hr
   subst hl0
   refine (H0 oa _ w).mono fun e w' he => ?_
   obtain ⟨rfl, rfl⟩ := he
   have hs : srt [] = [] := by
    have := hsl []
    cases h : srt [] with
    | nil => rfl
    | cons a r => rw [h] at this; simp at this
   rw [hs]
   exact ⟨S, g, R, fun i _ _ => same.refl _, .tup [] [] rfl (by simp)⟩
  | arr k rows own b cap cs e fr fps hb hfr hk hrow hcap hmax hsz hin hown hno hB hS =>
   subst hr
   have hbl := (hbd b (by simp)).2
   have hb' : w.heap[b]? = some (.cells cs e fr) := hb
   have hlen : (l.map encS).length = l.toArray.size := by simp
   have hcs : l.length ≤ cs.size := by simp at hcap; omega
   have hcell : ∀ j, j < l.length → cs.getD j undef = encB (l.getD j []) := fun j hj => by
    have h := hin j (by simpa using hj)
    rw [flat_strsS, List.getElem?_eq_getElem hj] at h
    simp only at h
    have : l.getD j [] = l[j] := by simp [List.getD_eq_getElem?_getD, List.getElem?_eq_getElem hj]
    rw [this]
    generalize cs.getD j undef = v at h
    cases h; rfl
   have hH : Sort.Holds encB w b 0 l.toArray := fun j hj => by
    have hj' : j < l.length := by simpa using hj
    have e2 : (l.toArray)[j]! = l.getD j [] := by
     rw [getElem!_pos _ j hj]
     simp [List.getD_eq_getElem?_getD, List.getElem?_eq_getElem hj']
    rw [Nat.zero_add, e2, ← hcell j hj']
    refine ⟨cell_at hb (by omega), ?_⟩
    have := hfr j (by omega)
    simp only [World.frozen?, hb']
    simp only [Bool.and_eq_false_iff, decide_eq_false_iff_not]
    omega
   rw [hlen]
   refine (H b cap l.toArray w hH hbl (by simpa using hl)).mono fun e' w' he => ?_
   obtain ⟨rfl, W⟩ := he
   have hbs := W.cells cs e fr hb'
   have hS' : ∀ b', S b' → hp w' b' = hp w b' := fun b' h => W.other b' (fun hh => hS (hh ▸ h)) (R.still b' h)
   have K : Keep B w w' := ⟨W.os, W.tape, W.output, W.size, fun k hk => W.other k (fun hh => hB (hh ▸ hk)) (R.hB k hk)⟩
   have hl2 := hsl l
   let G1 : OG := ⟨.slice (some ⟨b, 0, none⟩) ((srt l).map encS).length cap, b, 1, b :: (List.replicate (srt l).length ([] : List Nat)).flatten, ((srt l).map encS).length, noHd⟩
   have hfl : (List.replicate (srt l).length ([] : List Nat)).flatten = [] := by simp
   have hcell' : ∀ j, j < (srt l).length → (Sort.putCells encB 0 (srt l).toArray cs).getD j undef = encB ((srt l).getD j []) := fun j hj => by
    have hj2 : j < cs.size := by omega
    simp only [Sort.putCells, Array.getD_eq_getD_getElem?, Array.getElem?_mapIdx, Array.getElem?_eq_getElem hj2, Option.map_some, Option.getD_some, Nat.sub_zero, Nat.zero_add]
    rw [if_pos ⟨Nat.zero_le _, by simpa using hj⟩, getElem!_pos _ j (by simpa using hj)]
    simp [List.getD_eq_getElem?_getD, List.getElem?_eq_getElem hj]
   have R2 := R.turnW (L' := (· < [AO.arr 1 (l.map encS) true].length)) (S' := S) (X' := []) K hS' 0 (fun o' ho hh => absurd (hoth o' ho) hh) G1 (some (.arr 1 ((srt l).map encS) true)) (fun _ h => h) (fun _ h => .inl h) (fun _ h => h) (fun _ => by simp)
    (fun _ _ _ => by rw [hG]; simp [G1, hl2]) (fun _ _ => hne) (fun o' ho hh => absurd (hoth o' ho) hh)
    (fun ao hao => by
     cases hao
     refine RO.arr 1 ((srt l).map encS) true b cap (Sort.putCells encB 0 (srt l).toArray cs) e fr (List.replicate (srt l).length []) hbs (by simpa [Sort.putCells] using hfr) (by decide) (by simp) (by simp only [List.length_map] at hcap ⊢; omega) hmax (by simpa [Sort.putCells] using hsz)
      (fun i hi => ?_) (fun _ => ⟨by simp, fun i hi => ?_, by rw [hfl]; simp⟩) (fun h => by cases h) hB hS
     ·have hi' : i < (srt l).length := by simpa using hi
      rw [hcell' i hi', flat_strsS, List.getElem?_eq_getElem hi']
      have : (srt l).getD i [] = (srt l)[i] := by simp [List.getD_eq_getElem?_getD, List.getElem?_eq_getElem hi']
      rw [this]
      exact .v _ rfl
     ·have hi' : i < (srt l).length := by simpa using hi
      rw [hcell' i hi', flat_strsS, List.getElem?_eq_getElem hi']
      have : (srt l).getD i [] = (srt l)[i] := by simp [List.getD_eq_getElem?_getD, List.getElem?_eq_getElem hi']
      rw [this]
      have e3 : (List.replicate (srt l).length ([] : List Nat)).getD i [] = [] := by
       rw [List.getD_eq_getElem?_getD, List.getElem?_replicate]
       split <;> rfl
      rw [e3]
      exact .v _ rfl)
    (fun _ => ⟨by simp [G1, hfl], fun b' hb2 => by
     have : b' = b := by simpa [G1, hfl] using hb2
     subst this
     exact ⟨hB, Nat.lt_of_lt_of_le hbl W.size⟩⟩)
    (fun _ o' ho hh => absurd (hoth o' ho) hh) ⟨List.nodup_nil, by simp, by simp, by simp⟩
   refine ⟨S, _, R2.congr (fun _ => rfl) (fun x => ?_), fun i hi _ => ?_, .tup [] [] rfl (by simp)⟩
   ·cases x with
    | zero => rfl
    | succ x => rw [find_cons, if_neg (by omega), hoth (x + 1) (by omega)]; rfl
   ·have hi0 : i = 0 := by simpa using hi
    subst hi0
    have e4 : setG g 0 G1 0 = G1 := by simp [setG]
    rw [e4, hG]
    exact ⟨by simp [G1, hl2], fun _ => rfl, rfl, by simp [G1, hl2], fun _ => rfl⟩

/-! ### the order of the words -/
theorem bl_irrefl : ∀ (x : List UInt8), Op.bytesLess x x = false
 | [] => rfl
 | c :: r => by unfold Op.bytesLess; rw [bl_irrefl r]; simp
theorem bl_trans : ∀ {x y z : List UInt8}, Op.bytesLess x y = true → Op.bytesLess y z = true → Op.bytesLess x z = true
 | x, [], z, h, _ => by simp [Op.bytesLess] at h
 | x, b :: y, [], _, h => by simp [Op.bytesLess] at h
 | [], b :: y, c :: z, _, _ => rfl
 | a :: x, b :: y, c :: z, h1, h2 => by
  simp only [Op.bytesLess, Bool.or_eq_true, Bool.and_eq_true, decide_eq_true_eq, beq_iff_eq] at *
  rcases h1 with h1 | ⟨rfl, h1⟩
  ·rcases h2 with h2 | ⟨rfl, h2⟩
   ·exact .inl (UInt8.lt_trans h1 h2)
   ·exact .inl h1
  ·rcases h2 with h2 | ⟨rfl, h2⟩
   ·exact .inl h2
   ·exact .inr ⟨rfl, bl_trans h1 h2⟩
theorem bl_total : ∀ {x y : List UInt8}, Op.bytesLess x y = false → Op.bytesLess y x = false → x = y
 | [], [], _, _ => rfl
 | [], b :: y, h, _ => by simp [Op.bytesLess] at h
 | a :: x, [], _, h => by simp [Op.bytesLess] at h
 | a :: x, b :: y, h1, h2 => by
  simp only [Op.bytesLess, Bool.or_eq_false_iff, Bool.and_eq_false_iff, decide_eq_false_iff_not, beq_eq_false_iff_ne, ne_eq] at *
  have hab : a = b := UInt8.le_antisymm (UInt8.not_lt.1 h2.1) (UInt8.not_lt.1 h1.1)
  subst hab
  rw [bl_total (h1.2.resolve_left (fun h => h rfl)) (h2.2.resolve_left (fun h => h rfl))]
/-- shorter words first; words of one length by their letters -/
def ltW (x y : List UInt8) : Bool := if x.length = y.length then Op.bytesLess x y else decide (x.length < y.length)
theorem ltW_irrefl (x : List UInt8) : ltW x x = false := by unfold ltW; rw [if_pos rfl]; exact bl_irrefl x
theorem ltW_iff {x y : List UInt8} : ltW x y = true ↔ x.length < y.length ∨ (x.length = y.length ∧ Op.bytesLess x y = true) := by
 unfold ltW
 split
 ·rename_i h; simp [h]
 ·rename_i h; simp [h]
theorem ltW_trans {x y z : List UInt8} (h1 : ltW x y = true) (h2 : ltW y z = true) : ltW x z = true := by
 rw [ltW_iff] at *
 rcases h1 with h1 | ⟨e1, h1⟩ <;> rcases h2 with h2 | ⟨e2, h2⟩
 ·exact .inl (by omega)
 ·exact .inl (by omega)
 ·exact .inl (by omega)
 ·exact .inr ⟨by omega, bl_trans h1 h2⟩
theorem ltW_total {x y : List UInt8} (h1 : ltW x y = false) (h2 : ltW y x = false) : x = y := by
 unfold ltW at h1 h2
 by_cases h : x.length = y.length
 ·rw [if_pos h] at h1
  rw [if_pos h.symm] at h2
  exact bl_total h1 h2
 ·rw [if_neg h] at h1
  rw [if_neg (fun e => h e.symm)] at h2
  simp at h1 h2
  omega
def cmpW (x y : List UInt8) : Int := if ltW x y = true then -1 else 1
theorem cmpW_lt (x y : List UInt8) : decide (cmpW x y < 0) = ltW x y := by
 unfold cmpW
 cases ltW x y <;> rfl
/-- the words in order -/
def sortW (l : List (List UInt8)) : List (List UInt8) := l.mergeSort fun x y => !ltW y x
theorem sortW_length (l : List (List UInt8)) : (sortW l).length = l.length := List.length_mergeSort l
end Go.Av
