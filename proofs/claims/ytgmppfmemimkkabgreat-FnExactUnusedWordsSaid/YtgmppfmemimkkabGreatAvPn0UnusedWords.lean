/- plain laws -/
import Derived.Test.YtgmppfmemimkkabGreatAvPhUnusedWords
namespace Go.Proofs
open Go Go.Av
set_option maxRecDepth 100000
set_option maxHeartbeats 40000000
set_option linter.unusedVariables false
set_option linter.unusedSimpArgs false
namespace Lw
theorem p_s_HasWord {N : Nat} (l : List (List UInt8)) (w : List UInt8) (hl : l.length ≤ 274877906944) (hN : l.length < N) : s_HasWord N l w = some (decide (w ∈ l)) := by
 unfold s_HasWord
 rw [loop_all (l := l) (fun x => !(x == w)) (b := true) (fun i x hx hi => by
  unfold s_HasWord_L1
  rw [sel_pos (by omega), getI_nat hx, bnd_mk]
  cases x == w <;> rfl) (by unfold s_HasWord_L1; rw [sel_neg (by omega)]) (by omega) hN]
 by_cases h : w ∈ l
 ·rw [decide_eq_true h, if_neg]
  rw [List.all_eq_true]; intro hn
  have := hn w h
  simp at this
 ·rw [decide_eq_false h, if_pos]
  rw [List.all_eq_true]; intro x hx
  have : x ≠ w := fun e => h (e ▸ hx)
  simpa using this
theorem p_g_Index {N : Nat} (l : List (List UInt8)) (w : List UInt8) (hl : l.length ≤ 274877906944) (hN : l.length < N) : ∃ i : Int, g_slices_Index_Sstring_string N l w = some i ∧ (0 ≤ i ↔ w ∈ l) := by
 unfold g_slices_Index_Sstring_string
 by_cases h : w ∈ l
 ·obtain ⟨k, hk, hmin⟩ : ∃ k, l[k]? = some w ∧ ∀ j, j < k → l[j]? ≠ some w := by
   obtain ⟨k, hk⟩ := List.mem_iff_getElem?.1 h
   induction k using Nat.strongRecOn with
   | _ k ih =>
    by_cases hj : ∃ j, j < k ∧ l[j]? = some w
    ·obtain ⟨j, h1, h2⟩ := hj; exact ih j h1 h2
    ·exact ⟨k, hk, fun j hj1 hj2 => hj ⟨j, hj1, hj2⟩⟩
  have hkl := (List.getElem?_eq_some_iff.1 hk).1
  have := loopN_inv (N := N) (step := g_slices_Index_Sstring_string_L1 N l w) (fun i => (i : Int)) (n := k) (b := .rt (k : Int)) (fun j hj => by
   have hx : l[j]? = some l[j] := List.getElem?_eq_getElem (by omega)
   have hne : l[j] ≠ w := fun e => hmin j hj (by rw [hx, e])
   unfold g_slices_Index_Sstring_string_L1
   have e : (w == l[j]) = false := by simpa using hne.symm
   rw [sel_pos (by omega), getI_nat hx, bnd_mk, e, sel_false, w64_nat (by omega)]) (by
   unfold g_slices_Index_Sstring_string_L1
   rw [sel_pos (by omega), getI_nat hk, bnd_mk]
   simp) (by omega)
  rw [show (0 : Int) = ((0 : Nat) : Int) from rfl, this]
  exact ⟨_, rfl, by simp [h]⟩
 ·have := loopN_inv (N := N) (step := g_slices_Index_Sstring_string_L1 N l w) (fun i => (i : Int)) (n := l.length) (b := .nx ()) (fun j hj => by
   have hx : l[j]? = some l[j] := List.getElem?_eq_getElem (by omega)
   have hne : l[j] ≠ w := fun e => h (e ▸ List.getElem_mem hj)
   unfold g_slices_Index_Sstring_string_L1
   have e : (w == l[j]) = false := by simpa using hne.symm
   rw [sel_pos (by omega), getI_nat hx, bnd_mk, e, sel_false, w64_nat (by omega)]) (by
   unfold g_slices_Index_Sstring_string_L1
   rw [sel_neg (by omega)]) hN
  refine ⟨-1, ?_, by simp [h]⟩
  rw [show (0 : Int) = ((0 : Nat) : Int) from rfl, this]; rfl
theorem p_i_HasWord {N : Nat} (l : List (List UInt8)) (w : List UInt8) (hl : l.length ≤ 274877906944) (hN : l.length < N) : i_HasWord N l w = some (decide (w ∈ l)) := by
 unfold i_HasWord g_slices_Contains_Sstring_string
 obtain ⟨i, h1, h2⟩ := p_g_Index l w hl hN
 rw [h1, bnd_mk, bnd_mk]
 simp only [ge_iff_le, h2]
def nbr (C n i j : Nat) : Prop := (0 < i % C ∧ j + 1 = i) ∨ (i % C + 1 < C ∧ j = i + 1) ∨ (C ≤ i ∧ j + C = i) ∨ (i + C < n ∧ j = i + C)
inductive Conn (C n : Nat) (w : Nat → Bool) (a : Nat) : Nat → Prop
 | refl : Conn C n w a a
 | step {b c : Nat} : Conn C n w a b → nbr C n b c → w c = true → Conn C n w a c
theorem Conn.trans {C n : Nat} {w : Nat → Bool} {a b c : Nat} (h1 : Conn C n w a b) (h2 : Conn C n w b c) : Conn C n w a c := by
 induction h2 with
 | refl => exact h1
 | step _ hn hw ih => exact .step ih hn hw
theorem Conn.cons {C n : Nat} {w : Nat → Bool} {a b c : Nat} (hn : nbr C n a b) (hw : w b = true) (h2 : Conn C n w b c) : Conn C n w a c := Conn.trans (.step .refl hn hw) h2
theorem mark_house {N : Nat} (hN : 67108864 < N) (g : Gx.House) (hs : g.size ≤ 4194303) : ∃ a b c d e f i, ∃ n : Nat, l_markHouse N g 1 = some (a, b, c, d, e, f, i, (n : Int)) := by
 have hc := cntHouse_le g 1
 exact ⟨_, _, _, _, _, _, _, _, p_markHouse hN g 1 (by omega)⟩
theorem sum_filter {α : Type} (p : α → Bool) (f : α → Nat) : ∀ l : List α, ((l.filter p).map f).sum ≤ (l.map f).sum
 | [] => Nat.le_refl _
 | x :: r => by
  have := sum_filter p f r
  simp only [List.filter_cons, List.map_cons, List.sum_cons]
  split
  ·simp only [List.map_cons, List.sum_cons]; omega
  ·omega
theorem marks_strings {N : Nat} (hN : 67108864 < N) (g : List (List UInt8)) (hs : g.length ≤ 1048576) : ∃ a, ∃ n : Nat, l_markStringS N g 1 = some (a, (n : Int)) ∧ l_heldStringS N a 1 = some (n : Int) := by
 have hc := sum16c (c := cnString) (fun y => by unfold cnString; omega) g
 exact ⟨_, _, p_markStringS hN g 1 (by omega), p_heldStringS hN g 1 (by omega)⟩
theorem p_s_BeforeLt (N : Nat) (a b : List UInt8) : s_BeforeWord N a b = some (ltW a b) := by
 unfold s_BeforeWord ltW
 by_cases h : a.length = b.length
 ·have e : ((a.length : Int) != (b.length : Int)) = false := by simp; omega
  rw [e, sel_false, if_pos h]
 ·have e : ((a.length : Int) != (b.length : Int)) = true := by simp; omega
  rw [e, sel_true, if_neg h]
  simp
/-- each once, in order of its first place -/
def onceL (l : List (List UInt8)) : List (List UInt8) := l.foldl (fun a x => if x ∈ a then a else a ++ [x]) []
/-- where a word belongs among the first m of an ordered list -/
def posTo (w : List UInt8) (a : List (List UInt8)) : Nat → Nat
 | 0 => 0
 | m + 1 => if ltW w (a.getD m []) = true then posTo w a m else m + 1
theorem posTo_le (w : List UInt8) (a : List (List UInt8)) : ∀ m, posTo w a m ≤ m
 | 0 => Nat.le_refl _
 | m + 1 => by
  unfold posTo
  split
  ·have := posTo_le w a m; omega
  ·omega
def insW (w : List UInt8) (a : List (List UInt8)) : List (List UInt8) := (a.take (posTo w a a.length) ++ [w]) ++ a.drop (posTo w a a.length)
def usedL (l : List Gx.Used) : List (List UInt8) := l.foldl (fun a x => if x.mWord ∈ a then a else insW x.mWord a) []
theorem insW_len (w : List UInt8) (a : List (List UInt8)) : (insW w a).length = a.length + 1 := by
 have := posTo_le w a a.length
 unfold insW
 simp only [List.length_append, List.length_take, List.length_drop, List.length_singleton]
 omega
theorem insW_perm (w : List UInt8) (a : List (List UInt8)) : (insW w a).Perm (w :: a) := by
 unfold insW
 rw [List.append_assoc]
 refine List.perm_middle.trans (List.Perm.of_eq ?_)
 show w :: (a.take _ ++ a.drop _) = w :: a
 rw [List.take_append_drop]
theorem posTo_up (w : List UInt8) (a : List (List UInt8)) : ∀ m i, posTo w a m ≤ i → i < m → ltW w (a.getD i []) = true
 | 0, i, _, h => by omega
 | m + 1, i, h1, h2 => by
  unfold posTo at h1
  split at h1
  ·rename_i hm
   by_cases hi : i = m
   ·subst hi; exact hm
   ·exact posTo_up w a m i h1 (by omega)
  ·omega
theorem posTo_down (w : List UInt8) (a : List (List UInt8)) : ∀ m, posTo w a m = 0 ∨ ltW w (a.getD (posTo w a m - 1) []) = false
 | 0 => .inl rfl
 | m + 1 => by
  unfold posTo
  split
  ·exact posTo_down w a m
  ·rename_i h
   right
   simpa using h
theorem insW_sorted {w : List UInt8} {a : List (List UInt8)} (hw : w ∉ a) (ha : a.Pairwise fun x y => ltW x y = true) : (insW w a).Pairwise fun x y => ltW x y = true := by
 have hle := posTo_le w a a.length
 have hup := posTo_up w a a.length
 have hdn := posTo_down w a a.length
 unfold insW
 generalize posTo w a a.length = k at *
 have hg : ∀ i (h : i < a.length), a.getD i [] = a[i] := fun i h => by simp [List.getD_eq_getElem?_getD, List.getElem?_eq_getElem h]
 have h1 : ∀ e ∈ a.take k, ltW e w = true := by
  intro e he
  obtain ⟨i, hi, rfl⟩ := List.mem_iff_getElem.1 he
  rw [List.length_take] at hi
  rw [List.getElem_take]
  have hk : k - 1 < a.length := by omega
  rcases hdn with h | h
  ·omega
  ·rw [hg _ hk] at h
   have hlt : ltW a[k - 1] w = true := by
    cases hh : ltW a[k - 1] w with
    | true => rfl
    | false => exact absurd (ltW_total h hh ▸ List.getElem_mem hk) hw
   by_cases hik : i = k - 1
   ·subst hik; exact hlt
   ·exact ltW_trans (List.pairwise_iff_getElem.1 ha i (k - 1) (by omega) hk (by omega)) hlt
 have h2 : ∀ e ∈ a.drop k, ltW w e = true := by
  intro e he
  obtain ⟨i, hi, rfl⟩ := List.mem_iff_getElem.1 he
  rw [List.length_drop] at hi
  rw [List.getElem_drop]
  have := hup (k + i) (by omega) (by omega)
  rwa [hg _ (by omega)] at this
 rw [List.pairwise_append, List.pairwise_append]
 refine ⟨⟨ha.sublist (List.take_sublist _ _), List.pairwise_singleton _ _, fun x hx y hy => ?_⟩, ha.sublist (List.drop_sublist _ _), fun x hx y hy => ?_⟩
 ·rw [List.mem_singleton] at hy; subst hy; exact h1 x hx
 ·rcases List.mem_append.1 hx with hx | hx
  ·exact ltW_trans (h1 x hx) (h2 y hy)
  ·rw [List.mem_singleton] at hx; subst hx; exact h2 y hy
theorem usedL_once : ∀ (l : List Gx.Used) (a b : List (List UInt8)), a.Perm b → a.Pairwise (fun x y => ltW x y = true) →
  (l.foldl (fun a x => if x.mWord ∈ a then a else insW x.mWord a) a).Perm ((l.map (·.mWord)).foldl (fun a x => if x ∈ a then a else a ++ [x]) b) ∧
   (l.foldl (fun a x => if x.mWord ∈ a then a else insW x.mWord a) a).Pairwise fun x y => ltW x y = true
 | [], a, b, h1, h2 => ⟨h1, h2⟩
 | x :: l, a, b, h1, h2 => by
  simp only [List.foldl_cons, List.map_cons]
  by_cases h : x.mWord ∈ a
  ·rw [if_pos h, if_pos (h1.mem_iff.1 h)]
   exact usedL_once l a b h1 h2
  ·rw [if_neg h, if_neg (fun hh => h (h1.mem_iff.2 hh))]
   exact usedL_once l _ _ ((insW_perm _ _).trans ((h1.cons _).trans (List.perm_append_singleton _ _).symm)) (insW_sorted h h2)
theorem sortW_once (l : List Gx.Used) : sortW (onceL (l.map (·.mWord))) = usedL l := by
 obtain ⟨h1, h2⟩ := usedL_once l [] [] (List.Perm.refl _) List.Pairwise.nil
 unfold sortW onceL usedL
 refine List.Perm.eq_of_pairwise (le := fun x y => (!ltW y x) = true) ?_ ?_ ?_ ((List.mergeSort_perm _ _).trans h1.symm)
 ·intro a b _ _ q1 q2
  simp only [Bool.not_eq_true'] at q1 q2
  exact ltW_total q2 q1
 ·refine List.pairwise_mergeSort ?_ ?_ _
  ·intro a b c q1 q2
   simp only [Bool.not_eq_true'] at q1 q2 ⊢
   cases h : ltW c a with
   | false => rfl
   | true =>
    exfalso
    cases h3 : ltW b c with
    | true => rw [ltW_trans h3 h] at q1; cases q1
    | false =>
     have := ltW_total h3 q2
     subst this
     rw [h] at q1; cases q1
  ·intro a b
   cases h : ltW b a with
   | false => rfl
   | true =>
    cases h3 : ltW a b with
    | false => rfl
    | true => have := ltW_trans h h3; rw [ltW_irrefl] at this; cases this
 ·refine h2.imp ?_
  intro a b q
  cases h3 : ltW b a with
  | false => rfl
  | true => have := ltW_trans q h3; rw [ltW_irrefl] at this; cases this
theorem usedL_fold_size : ∀ (l : List Gx.Used) (a : List (List UInt8)), (l.foldl (fun a x => if x.mWord ∈ a then a else insW x.mWord a) a).length ≤ a.length + l.length ∧
  ((l.foldl (fun a x => if x.mWord ∈ a then a else insW x.mWord a) a).map (fun e : List UInt8 => e.length)).sum ≤ (a.map (fun e : List UInt8 => e.length)).sum + (l.map (fun e : Gx.Used => e.size)).sum
 | [], a => ⟨by simp, by simp⟩
 | x :: l, a => by
  have hx : x.mWord.length ≤ x.size := by unfold Gx.Used.size; omega
  simp only [List.foldl_cons, List.map_cons, List.sum_cons, List.length_cons]
  split
  ·obtain ⟨h1, h2⟩ := usedL_fold_size l a
   exact ⟨by omega, by omega⟩
  ·obtain ⟨h1, h2⟩ := usedL_fold_size l (insW x.mWord a)
   rw [insW_len] at h1
   have h3 := ((insW_perm x.mWord a).map (fun e : List UInt8 => e.length)).sum_nat
   simp only [List.map_cons, List.sum_cons] at h3
   exact ⟨by omega, by omega⟩
theorem usedL_size (l : List Gx.Used) : (usedL l).length ≤ l.length ∧ ((usedL l).map (fun e : List UInt8 => e.length)).sum ≤ (l.map (fun e : Gx.Used => e.size)).sum := by
 have := usedL_fold_size l []
 unfold usedL
 simpa using this
theorem pos_loop {N : Nat} (a : List (List UInt8)) (i : Int) (u : Gx.Used) (hl : a.length ≤ 274877906944) : ∀ (m M : Nat), m ≤ a.length → m < M → loopN (s_WordsUsed_L2 N (a, i) u) M (m : Int) = some ((posTo u.mWord a m : Nat) : Int)
 | _, 0, _, h => by omega
 | 0, M + 1, _, _ => by
  have : s_WordsUsed_L2 N (a, i) u ((0 : Nat) : Int) = some (.inr ((0 : Nat) : Int)) := by unfold s_WordsUsed_L2; rw [sel_neg (by omega)]
  simp only [loopN, this]; rfl
 | m + 1, M + 1, h1, h2 => by
  have hx : a[m]? = some a[m] := List.getElem?_eq_getElem (by omega)
  have hg : a.getD m [] = a[m] := by rw [List.getD_eq_getElem?_getD, hx]; rfl
  have e : w64 (((m + 1 : Nat) : Int) - 1) = (m : Int) := by rw [w64_in (by omega) (by omega)]; omega
  have : s_WordsUsed_L2 N (a, i) u ((m + 1 : Nat) : Int) = if ltW u.mWord a[m] = true then some (.inl (m : Int)) else some (.inr ((m + 1 : Nat) : Int)) := by
   unfold s_WordsUsed_L2
   rw [sel_pos (by omega), e, getI_nat hx, bnd_mk, p_s_BeforeLt, bnd_mk]
   cases ltW u.mWord a[m] <;> rfl
  by_cases hc : ltW u.mWord a[m] = true
  ·rw [if_pos hc] at this
   simp only [loopN, this]
   unfold posTo
   rw [hg, if_pos hc]
   exact pos_loop a i u hl m M (by omega) (by omega)
  ·rw [if_neg hc] at this
   simp only [loopN, this]
   unfold posTo
   rw [hg, if_neg hc]
theorem p_s_WordsUsed {N : Nat} (hN : 67108864 < N) (h : Gx.House) (hl : h.mUses.length ≤ 1048576) : s_WordsUsed N h = some (usedL h.mUses) := by
 unfold s_WordsUsed
 have := loop_fold (N := N) (step := s_WordsUsed_L1 N h) (fun i a => (a, (i : Int))) h.mUses (fun a x => if x.mWord ∈ a then a else insW x.mWord a) (fun a => a) (fun i a => a.length ≤ i) (a := []) (Nat.le_refl _) (fun a _ => by
  unfold s_WordsUsed_L1
  simp only
  rw [sel_neg (by omega)]) (fun i a x ha hx hi => by
  have hp := posTo_le x.mWord a a.length
  unfold s_WordsUsed_L1
  simp only
  rw [sel_pos (by omega), getI_nat hx, bnd_mk, pos_loop a i x (by omega) a.length N (Nat.le_refl _) (by omega), bnd_mk, p_s_HasWord _ _ (by omega) (by omega), bnd_mk, w64_nat (by omega)]
  by_cases hw : x.mWord ∈ a
  ·rw [decide_eq_true hw, if_pos hw]
   exact ⟨rfl, by omega⟩
  ·have e1 : sub a 0 ((posTo x.mWord a a.length : Nat) : Int) = a.take (posTo x.mWord a a.length) := by unfold sub; simp
   have e2 : sub a ((posTo x.mWord a a.length : Nat) : Int) (a.length : Int) = a.drop (posTo x.mWord a a.length) := by
    unfold sub
    rw [Int.toNat_natCast, List.take_of_length_le (by rw [List.length_drop]; omega)]
   have e3 := insW_len x.mWord a
   rw [decide_eq_false hw, if_neg hw, Bool.not_false, sel_true, e1, e2, chk_pos ⟨by omega, by omega, by omega⟩, chk_pos (by rw [List.length_take]; simp only [List.length_nil]; omega), chk_pos (by rw [List.length_take]; simp only [List.length_singleton]; omega), chk_pos ⟨by omega, by omega, by omega⟩,
    chk_pos (by rw [List.length_append, List.length_take, List.length_drop]; simp only [List.length_singleton]; omega)]
   exact ⟨rfl, by omega⟩) (by omega)
 rw [show (([] : List (List UInt8)), (0 : Int)) = ([], ((0 : Nat) : Int)) from rfl, this, bnd_mk]
 rfl
theorem p_g_Contains {N : Nat} (l : List (List UInt8)) (w : List UInt8) (hl : l.length ≤ 274877906944) (hN : l.length < N) : g_slices_Contains_Sstring_string N l w = some (decide (w ∈ l)) := by
 unfold g_slices_Contains_Sstring_string
 obtain ⟨i, h1, h2⟩ := p_g_Index l w hl hN
 rw [h1, bnd_mk]
 simp only [ge_iff_le, h2]
theorem p_i_once {N : Nat} (hN : 67108864 < N) (l : List (List UInt8)) (hl : l.length ≤ 1048576) : i_once N l = some (onceL l) ∧ (onceL l).length ≤ l.length := by
 unfold i_once
 have key : ∀ (l b : List (List UInt8)), (l.foldl (fun a x => if x ∈ a then a else a ++ [x]) b).length ≤ b.length + l.length := by
  intro l
  induction l with
  | nil => intro b; simp
  | cons x l ih =>
   intro b
   simp only [List.foldl_cons, List.length_cons]
   split
   ·have := ih b; omega
   ·have := ih (b ++ [x]); simp only [List.length_append, List.length_singleton] at this; omega
 have := loop_fold (N := N) (step := i_once_L1 N l) (fun i a => (a, (i : Int))) l (fun a x => if x ∈ a then a else a ++ [x]) (fun a => a) (fun i a => a.length ≤ i) (a := []) (Nat.le_refl _) (fun a _ => by
  unfold i_once_L1
  simp only
  rw [sel_neg (by omega)]) (fun i a x ha hx hi => by
  unfold i_once_L1
  simp only
  rw [sel_pos (by omega), getI_nat hx, bnd_mk, p_g_Contains _ _ (by omega) (by omega), bnd_mk, w64_nat (by omega)]
  by_cases hw : x ∈ a
  ·rw [decide_eq_true hw, if_pos hw]
   exact ⟨rfl, by omega⟩
  ·rw [decide_eq_false hw, if_neg hw, Bool.not_false, sel_true, chk_pos (by simp only [List.length_singleton]; omega)]
   exact ⟨rfl, by simp only [List.length_append, List.length_singleton]; omega⟩) (by omega)
 refine ⟨?_, by have := key l []; unfold onceL; simpa using this⟩
 rw [show (([] : List (List UInt8)), (0 : Int)) = ([], ((0 : Nat) : Int)) from rfl, this, bnd_mk]
 rfl
theorem p_i_WordsUsed {N : Nat} (hN : 67108864 < N) (h : Gx.House) (hl : h.mUses.length ≤ 1048576) : i_WordsUsed N h = some (usedL h.mUses) := by
 unfold i_WordsUsed
 rw [loop_map (l := h.mUses) (·.mWord) (fi := id) (fun i x a hx hi ha => by
  unfold i_WordsUsed_L1
  simp only
  rw [sel_pos (by omega), getI_nat hx, bnd_mk, chk_pos (by simp only [List.length_singleton]; omega)]) (fun a => by
  unfold i_WordsUsed_L1
  simp only
  rw [sel_neg (by omega)]; rfl) (by omega) (by omega), bnd_mk]
 obtain ⟨h1, h2⟩ := p_i_once hN (h.mUses.map (·.mWord)) (by rw [List.length_map]; omega)
 rw [List.length_map] at h2
 simp only [id]
 rw [h1, bnd_mk]
 unfold g_slices_SortFunc_Sstring_string
 rw [chk_pos (by omega), bnd_mk, sortW_once]
def unusedL (h : Gx.House) : List (List UInt8) := (h.mList.map (·.mWord)).filter fun w => !decide (w ∈ usedL h.mUses)
theorem unusedL_fold (u : List (List UInt8)) : ∀ (l : List Gx.Listed) (a : List (List UInt8)), l.foldl (fun a x => if !decide (x.mWord ∈ u) then a ++ [x.mWord] else a) a = a ++ (l.map (·.mWord)).filter fun w => !decide (w ∈ u)
 | [], a => by simp
 | x :: l, a => by
  simp only [List.foldl_cons, List.map_cons]
  rw [unusedL_fold u l]
  by_cases h : x.mWord ∈ u
  ·simp [h]
  ·simp [h]
theorem unusedL_size (h : Gx.House) : (unusedL h).length ≤ h.mList.length ∧ ((unusedL h).map (fun e : List UInt8 => e.length)).sum ≤ (h.mList.map (fun e : Gx.Listed => e.size)).sum := by
 unfold unusedL
 refine ⟨Nat.le_trans (List.length_filter_le _ _) (by simp), Nat.le_trans (sum_filter _ _ _) ?_⟩
 generalize h.mList = l
 induction l with
 | nil => simp
 | cons x l ih =>
  have hx : x.mWord.length ≤ x.size := by unfold Gx.Listed.size; omega
  simp only [List.map_cons, List.sum_cons] at ih ⊢
  omega
theorem p_s_UnusedWords {N : Nat} (hN : 67108864 < N) (h : Gx.House) (hl : h.mUses.length ≤ 1048576) (hl2 : h.mList.length ≤ 1048576) : s_UnusedWords N h = some (unusedL h) := by
 have hu := (usedL_size h.mUses).1
 unfold s_UnusedWords
 rw [p_s_WordsUsed hN h hl, bnd_mk]
 have := loop_fold (N := N) (step := s_UnusedWords_L1 N h (usedL h.mUses)) (fun i a => (a, (i : Int))) h.mList (fun a x => if !decide (x.mWord ∈ usedL h.mUses) then a ++ [x.mWord] else a) (fun a => a) (fun i a => a.length ≤ i) (a := []) (Nat.le_refl _) (fun a _ => by
  unfold s_UnusedWords_L1
  simp only
  rw [sel_neg (by omega)]) (fun i a x ha hx hi => by
  unfold s_UnusedWords_L1
  simp only
  rw [sel_pos (by omega), getI_nat hx, bnd_mk, p_s_HasWord _ _ (by omega) (by omega), bnd_mk, bnd_mk, w64_nat (by omega)]
  cases decide (x.mWord ∈ usedL h.mUses) with
  | true => exact ⟨rfl, by simp; omega⟩
  | false =>
   rw [Bool.not_false, sel_true, chk_pos (by simp only [List.length_singleton]; omega)]
   exact ⟨rfl, by simp; omega⟩) (by omega)
 rw [show (([] : List (List UInt8)), (0 : Int)) = ([], ((0 : Nat) : Int)) from rfl, this, bnd_mk, unusedL_fold, List.nil_append]
 rfl
theorem p_i_UnusedWords {N : Nat} (hN : 67108864 < N) (h : Gx.House) (hl : h.mUses.length ≤ 1048576) (hl2 : h.mList.length ≤ 1048576) : i_UnusedWords N h = some (unusedL h) := by
 have hu := (usedL_size h.mUses).1
 unfold i_UnusedWords
 rw [p_i_WordsUsed hN h hl, bnd_mk]
 have := loop_fold (N := N) (step := i_UnusedWords_L1 N h (usedL h.mUses)) (fun i a => (a, (i : Int))) h.mList (fun a x => if !decide (x.mWord ∈ usedL h.mUses) then a ++ [x.mWord] else a) (fun a => a) (fun i a => a.length ≤ i) (a := []) (Nat.le_refl _) (fun a _ => by
  unfold i_UnusedWords_L1
  simp only
  rw [sel_neg (by omega)]) (fun i a x ha hx hi => by
  unfold i_UnusedWords_L1
  simp only
  rw [sel_pos (by omega), getI_nat hx, bnd_mk, p_i_HasWord _ _ (by omega) (by omega), bnd_mk, w64_nat (by omega)]
  cases decide (x.mWord ∈ usedL h.mUses) with
  | true => exact ⟨rfl, by simp; omega⟩
  | false =>
   rw [Bool.not_false, sel_true, chk_pos (by simp only [List.length_singleton]; omega)]
   exact ⟨rfl, by simp; omega⟩) (by omega)
 rw [show (([] : List (List UInt8)), (0 : Int)) = ([], ((0 : Nat) : Int)) from rfl, this, bnd_mk, unusedL_fold, List.nil_append]
 rfl
theorem p_FnExactUnusedWords {N : Nat} (hN : 67108864 < N) (x : Gx.House) (hok : x.ok) : l_FnExactUnusedWords N x = some true := by
 unfold l_FnExactUnusedWords
 rw [p_szHouse hN x hok (by omega) (by omega), bnd_mk, sel_ite]
 split
 ·rfl
 ·rename_i h
  have hs : x.size ≤ 1048576 := by unfold szF at h; split at h <;> omega
  have hz := unusedL_size x
  have hs' := hs
  unfold Gx.House.size at hs'
  rw [p_toHouse hN x hs]
  obtain ⟨a, b, c, d, e, f, i, m, hm⟩ := mark_house hN x (by omega)
  obtain ⟨a', m', hm', hh⟩ := marks_strings hN (unusedL x) (by omega)
  have hq := p_eqStringS hN (unusedL x) (unusedL x) (by omega)
  simp only [bnd_mk, p_i_UnusedWords hN x (by omega) (by omega), p_s_UnusedWords hN x (by omega) (by omega), p_eqHouse hN x x (by omega), hq, hm, hm', hh, bne_self_eq_false, sel_false, decide_true, Bool.not_true, sel_neg (show ¬ ((m : Int) < 0) by omega), sel_neg (show ¬ ((m' : Int) < 0) by omega)]
end Lw
end Go.Proofs
