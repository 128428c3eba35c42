/- plain laws -/
import Derived.Test.YtgmppfmemimkkaaDoorAvPhFormatNumbers
import Derived.Lib.Join
namespace Go.Proofs
open Go Go.Av
set_option maxRecDepth 100000
set_option maxHeartbeats 40000000
set_option linter.unusedVariables false
set_option linter.unusedSimpArgs false
namespace Lw
theorem join_snoc' (l : List (List UInt8)) (x sep : List UInt8) (h : l ≠ []) : Lib.join (l ++ [x]) sep = Lib.join l sep ++ sep ++ x := by
 unfold Lib.join
 induction l with
 | nil => exact absurd rfl h
 | cons y r ih =>
  cases r with
  | nil => simp [List.intercalate, List.intersperse]
  | cons z r =>
   have := ih (by simp)
   simp only [List.intercalate, List.cons_append, List.intersperse_cons_cons, List.flatten_cons, List.append_assoc] at this ⊢
   rw [this]
theorem join_le' (l : List (List UInt8)) (sep : List UInt8) : (Lib.join l sep).length ≤ sep.length * l.length + (l.map List.length).sum := by
 unfold Lib.join
 induction l with
 | nil => simp [List.intercalate]
 | cons y r ih =>
  cases r with
  | nil => simp [List.intercalate, List.intersperse]
  | cons z r =>
   simp only [List.intercalate, List.intersperse_cons_cons, List.flatten_cons, List.length_append, List.map_cons, List.sum_cons, List.length_cons] at ih ⊢
   have e : sep.length * (r.length + 1 + 1) = sep.length * (r.length + 1) + sep.length := by rw [Nat.mul_add]; omega
   omega
theorem sum_take_le (l : List (List UInt8)) (i : Nat) : ((l.take i).map List.length).sum ≤ (l.map List.length).sum := by
 have e : (l.map List.length).sum = ((l.take i).map List.length).sum + ((l.drop i).map List.length).sum := by rw [← List.sum_append, ← List.map_append, List.take_append_drop]
 omega
theorem join_take_le (l : List (List UInt8)) (sep : List UInt8) (i : Nat) : (Lib.join (l.take i) sep).length ≤ sep.length * l.length + (l.map List.length).sum := by
 have h1 := join_le' (l.take i) sep
 have h2 := sum_take_le l i
 have h3 : sep.length * (l.take i).length ≤ sep.length * l.length := Nat.mul_le_mul_left _ (by simp; omega)
 omega
def orDash (l : List (List UInt8)) (sep : List UInt8) : List UInt8 := if l = [] then [45] else Lib.join l sep
theorem p_s_l39Join {N : Nat} (l : List (List UInt8)) (sep : List UInt8) (hN : l.length < N) (hl : l.length ≤ 274877906944) (hb : sep.length * l.length + (l.map List.length).sum ≤ 274877906944) : s_l39Join N l sep = some (orDash l sep) := by
 unfold s_l39Join
 have := loopN_inv (N := N) (step := s_l39Join_L1 N l sep) (fun i => (Lib.join (l.take i) sep, (i : Int))) (n := l.length) (b := Lib.join l sep) (fun i hi => by
  have hx : l[i]? = some l[i] := List.getElem?_eq_getElem hi
  have h1 := join_take_le l sep (i + 1)
  have e3 : l.take (i + 1) = l.take i ++ [l[i]] := by rw [List.take_add_one, hx]; rfl
  unfold s_l39Join_L1
  simp only
  rw [sel_pos (by omega), getI_nat hx, w64_nat (by omega)]
  cases i with
  | zero =>
   rw [sel_neg (by omega), bnd_mk, bnd_mk]
   have e0 : Lib.join (l.take 0) sep = [] := by simp [Lib.join, List.intercalate]
   have e1 : Lib.join (l.take (0 + 1)) sep = l[0] := by rw [e3]; simp [Lib.join, List.intercalate, List.intersperse]
   rw [e1] at h1
   rw [e0, e1, chk_pos (by simp only [List.length_nil]; omega)]
   rfl
  | succ i =>
   have e4 : Lib.join (l.take (i + 1 + 1)) sep = Lib.join (l.take (i + 1)) sep ++ sep ++ l[i + 1] := by
    rw [e3]
    refine join_snoc' _ _ _ ?_
    intro h
    have := congrArg List.length h
    rw [List.length_take, List.length_nil] at this; omega
   have h5 : (Lib.join (l.take (i + 1)) sep ++ sep ++ l[i + 1]).length ≤ sep.length * l.length + (l.map List.length).sum := by rw [← e4]; exact h1
   simp only [List.length_append] at h5
   have h6 : ((i + 1 : Nat) : Int) > 0 := by omega
   rw [sel_pos h6, chk_pos (by omega), bnd_mk, bnd_mk, chk_pos (by simp only [List.length_append]; omega), e4]) (by
  unfold s_l39Join_L1
  simp only
  rw [sel_neg (by omega), List.take_length]) hN
 have e0 : Lib.join (l.take 0) sep = [] := by simp [Lib.join, List.intercalate]
 rw [e0] at this
 rw [show (([] : List UInt8), (0 : Int)) = ([], ((0 : Nat) : Int)) from rfl, this, bnd_mk]
 unfold orDash
 cases l with
 | nil => rfl
 | cons y r =>
  have e : (((y :: r).length : Int) == 0) = false := by simp; omega
  rw [e]; rfl
theorem dec_len : ∀ (k u : Nat), 1 ≤ k → u < 10 ^ k → (Lib.decDigits u).length ≤ k
 | 0, _, h, _ => by omega
 | k + 1, u, _, hu => by
  rw [Lib.decDigits]
  split
  ·simp
  ·rename_i h
   have hk : 1 ≤ k := by
    cases k with
    | zero => simp at hu; omega
    | succ k => omega
   rw [Nat.pow_succ] at hu
   have := dec_len k (u / 10) hk (by omega)
   simp only [List.length_append, List.length_singleton]; omega
theorem itoa_len {n : Int} (h0 : -9223372036854775808 ≤ n) (h1 : n ≤ 9223372036854775807) : (Lib.itoa n).length ≤ 20 := by
 unfold Lib.itoa
 split
 ·have := dec_len 19 n.natAbs (by decide) (by omega)
  simp only [List.length_cons]; omega
 ·have := dec_len 19 n.toNat (by decide) (by omega)
  omega
theorem digit_b : ∀ d : Fin 10, UInt8.ofInt (IntKind.u8.wrap (w64 (48 + ((d.val : Nat) : Int)))) = UInt8.ofNat (48 + d.val) := by decide
theorem tmod_abs (x : Int) : sel (decide (Int.tmod x 10 < 0)) (some (w64 (0 - Int.tmod x 10))) (some (Int.tmod x 10)) = some ((x.natAbs % 10 : Nat) : Int) := by
 obtain ⟨a, rfl | rfl⟩ := x.eq_nat_or_neg
 ·have e : Int.tmod (a : Int) 10 = ((a % 10 : Nat) : Int) := rfl
  rw [e, sel_neg (by omega), Int.natAbs_natCast]
 ·have e : Int.tmod (-(a : Int)) 10 = -((a % 10 : Nat) : Int) := by rw [Int.neg_tmod]; rfl
  rw [e, Int.natAbs_neg, Int.natAbs_natCast]
  by_cases h : a % 10 = 0
  ·rw [h]; rfl
  ·rw [sel_pos (by omega), w64_in (by omega) (by omega)]
   congr 1; omega
theorem tdiv_abs (x : Int) : (Int.tdiv x 10).natAbs = x.natAbs / 10 := by
 obtain ⟨a, rfl | rfl⟩ := x.eq_nat_or_neg
 ·rfl
 ·rw [Int.neg_tdiv, Int.natAbs_neg, Int.natAbs_neg]; rfl
theorem fi_loop {N : Nat} : ∀ (k M : Nat) (x : Int) (s : List UInt8), k < M → x.natAbs < 10 ^ k → s.length + k ≤ 1000 → -9223372036854775808 ≤ x → x ≤ 9223372036854775807 →
  loopN (s_FormatInt_L1 N) M (s, x) = some (if x = 0 then s else Lib.decDigits x.natAbs ++ s)
 | _, 0, _, _, h, _, _, _, _ => by omega
 | 0, M + 1, x, s, _, hx, _, _, _ => by
  have : x = 0 := by simp at hx; omega
  subst this
  rfl
 | k + 1, M + 1, x, s, hM, hx, hs, h0, h1 => by
  by_cases hz : x = 0
  ·subst hz; rfl
  ·have ha := tdiv_abs x
   have hd : UInt8.ofInt (IntKind.u8.wrap (w64 (48 + ((x.natAbs % 10 : Nat) : Int)))) = UInt8.ofNat (48 + x.natAbs % 10) := digit_b ⟨x.natAbs % 10, Nat.mod_lt _ (by decide)⟩
   have hst : s_FormatInt_L1 N (s, x) = some (.inl ([UInt8.ofNat (48 + x.natAbs % 10)] ++ s, Int.tdiv x 10)) := by
    unfold s_FormatInt_L1
    have e : (x != 0) = true := by simpa using hz
    simp only
    rw [e, sel_true, chk_pos (by decide), tmod_abs, bnd_mk, hd, chk_pos (by simp only [List.length_singleton]; omega), chk_pos (by decide), w64_in (by omega) (by omega)]
   simp only [loopN, hst]
   rw [fi_loop k M _ _ (by omega) (by rw [ha]; rw [Nat.pow_succ] at hx; omega) (by simp only [List.length_append, List.length_singleton]; omega) (by omega) (by omega), if_neg hz, ha]
   congr 1
   by_cases h9 : x.natAbs < 10
   ·rw [if_pos (by omega)]
    conv => rhs; rw [Lib.decDigits]
    rw [dif_pos h9, Nat.mod_eq_of_lt h9]
   ·rw [if_neg (by omega)]
    conv => rhs; rw [Lib.decDigits]
    rw [dif_neg h9, List.append_assoc]
theorem p_s_FormatInt {N : Nat} (hN : 1000 < N) {n : Int} (h0 : -9223372036854775808 ≤ n) (h1 : n ≤ 9223372036854775807) : s_FormatInt N n = some (Lib.itoa n) := by
 unfold s_FormatInt
 by_cases hz : n = 0
 ·subst hz
  have : Lib.itoa 0 = [48] := by unfold Lib.itoa; rw [if_neg (by decide), Lib.decDigits, dif_pos (by decide)]; rfl
  rw [this]; rfl
 ·have e : (n == 0) = false := by simpa using hz
  rw [e, sel_false, fi_loop 19 N n [] (by omega) (by omega) (by decide) h0 h1, bnd_mk, if_neg hz, List.append_nil]
  have hl := dec_len 19 n.natAbs (by decide) (by omega)
  unfold Lib.itoa
  by_cases hn : n < 0
  ·rw [sel_pos hn, chk_pos (by simp only [List.length_singleton]; omega), if_pos hn]; rfl
  ·rw [sel_neg hn, if_neg hn]
   congr 2; omega
theorem p_i_FormatInt {N : Nat} {n : Int} (h0 : -9223372036854775808 ≤ n) (h1 : n ≤ 9223372036854775807) : i_FormatInt N n = some (Lib.itoa n) := by
 unfold i_FormatInt g_strconv_Itoa
 rw [chk_pos ⟨h0, h1⟩]; rfl
theorem p_i_orDash {N : Nat} (l : List (List UInt8)) (sep : List UInt8) (hl : l.length ≤ 274877906944) (hb : sep.length * l.length + (l.map List.length).sum ≤ 274877906944) : i_orDash N l sep = some (orDash l sep) := by
 unfold i_orDash orDash
 cases l with
 | nil => rfl
 | cons y r =>
  have e : (((y :: r).length : Int) == 0) = false := by simp; omega
  have hj := join_le' (y :: r) sep
  rw [e, sel_false]
  unfold g_strings_Join
  rw [chk_pos ⟨hl, by omega⟩]
  rfl
theorem sum_le_mul {α : Type} (f : α → List UInt8) (k : Nat) : ∀ (l : List α), (∀ e ∈ l, (f e).length ≤ k) → ((l.map f).map List.length).sum ≤ k * l.length
 | [], _ => by simp
 | x :: l, h => by
  have h1 := sum_le_mul f k l (fun e he => h e (List.mem_cons_of_mem _ he))
  have h2 := h x List.mem_cons_self
  simp only [List.map_cons, List.sum_cons, List.length_cons, Nat.mul_succ] at h1 ⊢
  omega
def fmtNumbers (l : List Int) : List UInt8 := orDash (l.map Lib.itoa) [32]
theorem numbers_sum (l : List Int) (ho : ∀ e ∈ l, Gx.inR e) : ((l.map Lib.itoa).map List.length).sum ≤ 20 * l.length := sum_le_mul _ _ _ fun e he => itoa_len (ho e he).1 (ho e he).2
theorem p_s_FormatNumbers {N : Nat} (hN : 67108864 < N) (l : List Int) (hl : l.length ≤ 1048576) (ho : ∀ e ∈ l, Gx.inR e) : s_FormatNumbers N l = some (fmtNumbers l) := by
 unfold s_FormatNumbers
 rw [loop_map (l := l) Lib.itoa (fi := id) (fun i x a hx hi ha => by
  have ho := ho x (List.mem_of_getElem? hx)
  unfold s_FormatNumbers_L1
  simp only
  rw [sel_pos (by omega), getI_nat hx, bnd_mk, p_s_FormatInt (by omega) ho.1 ho.2, bnd_mk, chk_pos (by simp only [List.length_singleton]; omega)]) (fun a => by
  unfold s_FormatNumbers_L1
  simp only
  rw [sel_neg (by omega)]; rfl) (by omega) (by omega), bnd_mk]
 have hs := numbers_sum l ho
 simp only [id]
 rw [p_s_l39Join _ _ (by rw [List.length_map]; omega) (by rw [List.length_map]; omega) (by rw [List.length_map]; simp only [List.length_singleton]; omega), bnd_mk]
 rfl
theorem p_i_FormatNumbers {N : Nat} (hN : 67108864 < N) (l : List Int) (hl : l.length ≤ 1048576) (ho : ∀ e ∈ l, Gx.inR e) : i_FormatNumbers N l = some (fmtNumbers l) := by
 unfold i_FormatNumbers
 rw [loop_map (l := l) Lib.itoa (fi := id) (fun i x a hx hi ha => by
  have ho := ho x (List.mem_of_getElem? hx)
  unfold i_FormatNumbers_L1
  simp only
  rw [sel_pos (by omega), getI_nat hx, bnd_mk, p_i_FormatInt ho.1 ho.2, bnd_mk, chk_pos (by simp only [List.length_singleton]; omega)]) (fun a => by
  unfold i_FormatNumbers_L1
  simp only
  rw [sel_neg (by omega)]; rfl) (by omega) (by omega), bnd_mk]
 have hs := numbers_sum l ho
 simp only [id]
 rw [p_i_orDash _ _ (by rw [List.length_map]; omega) (by rw [List.length_map]; simp only [List.length_singleton]; omega), bnd_mk]
 rfl
theorem p_FnExactFormatNumbers {N : Nat} (hN : 67108864 < N) (l : List Int) (o : l.length ≤ 9223372036854775807) (p : ∀ e ∈ l, Gx.inR e) : l_FnExactFormatNumbers N l = some true := by
 unfold l_FnExactFormatNumbers
 rw [sel_ite]
 split
 ·rfl
 ·rename_i h
  rw [p_toIntS hN l (by omega)]
  simp only [bnd_mk]
  rw [p_s_FormatNumbers hN l (by omega) p]
  simp only [bnd_mk]
  rw [p_i_FormatNumbers hN l (by omega) p]
  simp only [bnd_mk, bne_self_eq_false, sel_false]
  rw [p_eqIntS hN l l (by omega), bnd_mk]
  simp
def nbr (C n i j : Nat) : Prop := (0 < i % C ∧ j + 1 = i) ∨ (i % C + 1 < C ∧ j = i + 1) ∨ (C ≤ i ∧ j + C = i) ∨ (i + C < n ∧ j = i + C)
inductive Conn (C n : Nat) (w : Nat → Bool) (a : Nat) : Nat → Prop
 | refl : Conn C n w a a
 | step {b c : Nat} : Conn C n w a b → nbr C n b c → w c = true → Conn C n w a c
theorem Conn.trans {C n : Nat} {w : Nat → Bool} {a b c : Nat} (h1 : Conn C n w a b) (h2 : Conn C n w b c) : Conn C n w a c := by
 induction h2 with
 | refl => exact h1
 | step _ hn hw ih => exact .step ih hn hw
theorem Conn.cons {C n : Nat} {w : Nat → Bool} {a b c : Nat} (hn : nbr C n a b) (hw : w b = true) (h2 : Conn C n w b c) : Conn C n w a c := Conn.trans (.step .refl hn hw) h2
end Lw
end Go.Proofs
