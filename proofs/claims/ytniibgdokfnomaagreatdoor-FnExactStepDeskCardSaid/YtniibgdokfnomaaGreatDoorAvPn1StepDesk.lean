/- plain laws -/
import Derived.Test.YtniibgdokfnomaaGreatDoorAvPn0StepDesk
namespace Go.Proofs
open Go Go.Av
set_option maxRecDepth 100000
set_option maxHeartbeats 40000000
set_option linter.unusedVariables false
set_option linter.unusedSimpArgs false
namespace Lw
def orTo (M S : List Bool) (k : Nat) : List Bool := (List.range M.length).map fun j => if j < k then M.getD j false || S.getD j false else M.getD j false
theorem orTo_get (M S : List Bool) (k j : Nat) : (orTo M S k)[j]? = if j < M.length then some (if j < k then M.getD j false || S.getD j false else M.getD j false) else none := by
 unfold orTo
 rw [List.getElem?_map]
 by_cases h : j < M.length
 ·rw [List.getElem?_range h, if_pos h]; rfl
 ·rw [List.getElem?_eq_none (by simpa using h), if_neg h]; rfl
theorem orTo_len (M S : List Bool) (k : Nat) : (orTo M S k).length = M.length := by simp [orTo]
theorem orTo_zero (M S : List Bool) : orTo M S 0 = M := by
 apply List.ext_getElem?
 intro j
 rw [orTo_get]
 by_cases h : j < M.length
 ·rw [if_pos h, if_neg (by omega), List.getD_eq_getElem?_getD, List.getElem?_eq_getElem h]; rfl
 ·rw [if_neg h, List.getElem?_eq_none (by omega)]
theorem orTo_set {M S : List Bool} {k : Nat} (hk : k < M.length) {b : Bool} (hb : b = (M.getD k false || S.getD k false)) : (orTo M S k).set k b = orTo M S (k + 1) := by
 subst hb
 apply List.ext_getElem?
 intro j
 rw [List.getElem?_set, orTo_get, orTo_get, orTo_len]
 by_cases h : k = j
 ·subst h; simp [hk]
 ·rw [if_neg h]
  by_cases h2 : j < M.length
  ·rw [if_pos h2, if_pos h2]
   by_cases h3 : j < k
   ·rw [if_pos h3, if_pos (by omega)]
   ·rw [if_neg h3, if_neg (by omega)]
  ·rw [if_neg h2, if_neg h2]
theorem orTo_on {M S : List Bool} (hl : S.length = M.length) (d : Nat) : on (orTo M S M.length) d ↔ on M d ∨ on S d := by
 unfold on
 rw [List.getD_eq_getElem?_getD, orTo_get]
 by_cases h : d < M.length
 ·rw [if_pos h, if_pos h]; simp
 ·rw [if_neg h, List.getD_eq_getElem?_getD, List.getElem?_eq_none (by omega), List.getD_eq_getElem?_getD, List.getElem?_eq_none (by omega)]; simp
theorem p_s_L4 {N : Nat} {M S : List Bool} (hl : S.length = M.length) (hM : M.length < N) (hM2 : M.length ≤ 1048576) (p2 : Int × (List Bool) × Int) : loopN (s_PartsOf_L4 N S p2) N (M, 0) = some (w64 (p2.1 + 1), orTo M S M.length) := by
 have := loopN_inv (N := N) (step := s_PartsOf_L4 N S p2) (fun k => (orTo M S k, (k : Int))) (n := M.length) (b := (w64 (p2.1 + 1), orTo M S M.length)) (fun k hk => by
  have hol := orTo_len M S k
  have hg : (orTo M S k).getD k false = M.getD k false := by
   rw [List.getD_eq_getElem?_getD, orTo_get, if_pos hk, if_neg (by omega)]; rfl
  unfold s_PartsOf_L4
  simp only
  rw [sel_pos (by omega), getI_on (by omega), bnd_mk, hg, bnd_mk, getI_on (by omega), bnd_mk, bnd_mk, w64_nat (by omega), show Int.toNat (k : Int) = k by omega]
  cases hm : M.getD k false with
  | true => rw [sel_true, orTo_set hk (by rw [hm]; rfl)]
  | false => rw [sel_false, orTo_set hk (by rw [hm]; rfl)]) (by
   unfold s_PartsOf_L4
   simp only
   rw [sel_neg (by rw [orTo_len]; omega)]) hM
 rw [orTo_zero] at this
 exact this
theorem p_s_L3 {N : Nat} (p2 : Int × (List Bool) × Int) (hM : p2.2.1.length < N) (hM2 : p2.2.1.length ≤ 1048576) : loopN (s_PartsOf_L3 N p2) N ([], 0) = some (List.replicate p2.2.1.length false) := by
 rw [loop_map (N := N) (l := p2.2.1) (fun _ => false) (fi := id) (fun i x a hx hi ha => by
  unfold s_PartsOf_L3
  simp only
  rw [sel_pos (by omega), chk_pos (by simp; omega)]) (fun a => by unfold s_PartsOf_L3; rw [sel_neg (by simp)]; rfl) (by omega) (by omega)]
 simp [List.map_const']
theorem p_s_L1 {N : Nat} (g : Gx.Grid) (hM : g.mCells.length < N) (hM2 : g.mCells.length ≤ 1048576) : loopN (s_PartsOf_L1 N g) N ([], 0) = some (List.replicate g.mCells.length false) := by
 rw [loop_map (N := N) (l := g.mCells) (fun _ => false) (fi := id) (fun i x a hx hi ha => by
  unfold s_PartsOf_L1
  simp only
  rw [sel_pos (by omega), chk_pos (by simp; omega)]) (fun a => by unfold s_PartsOf_L1; rw [sel_neg (by simp)]; rfl) (by omega) (by omega)]
 simp [List.map_const']
theorem white_here {g : Gx.Grid} {R C : Nat} (D : Dims g R C) {M : List Bool} (hl : M.length = R * C) {i : Nat} (hi : i < R * C) :
  (chk (0 ≤ (i : Int) ∧ (i : Int) < (g.mCells.length : Int)) <| sel ((byteI g.mCells (i : Int)) == 46) (bnd (getI M (i : Int)) fun x2 => some !x2) (some false)) = some (dot g i && !M.getD i false) := by
 have := D.len
 rw [chk_pos (by omega), dot_byte (by omega), getI_on (by omega), bnd_mk]
 cases dot g i <;> rfl
theorem parts_loop {N : Nat} (hN : 67108864 < N) {g : Gx.Grid} {R C : Nat} (D : Dims g R C) (hg : isGrid g = true) : ∀ (m i : Nat) (M : List Bool) (cnt : Int) (F : Nat), i + m = R * C → m < F → M.length = R * C → (∀ d e, on M d → nbr C (R * C) d e → dot g e = true → on M e) →
  ∃ v, loopN (i_PartsOf_L1 N g) F (M, cnt, (i : Int)) = some v ∧ loopN (s_PartsOf_L2 N g) F (cnt, M, (i : Int)) = some v
 | 0, i, M, cnt, F, hi, hF, hl, hc => by
  obtain ⟨F, rfl⟩ : ∃ k, F = k + 1 := ⟨F - 1, by omega⟩
  have hlen := D.len
  have e1 : i_PartsOf_L1 N g (M, cnt, (i : Int)) = some (.inr cnt) := by unfold i_PartsOf_L1; rw [sel_neg (by simp only; omega)]
  have e2 : s_PartsOf_L2 N g (cnt, M, (i : Int)) = some (.inr cnt) := by unfold s_PartsOf_L2; rw [sel_neg (by simp only; omega)]
  exact ⟨cnt, by simp only [loopN, e1], by simp only [loopN, e2]⟩
 | m + 1, i, M, cnt, F, hi, hF, hl, hc => by
  obtain ⟨F, rfl⟩ : ∃ k, F = k + 1 := ⟨F - 1, by omega⟩
  have hC1 := D.c2.1; have hC2 := D.c2.2
  have hrc := rc36 D.r2.2 hC2
  have hlen := D.len
  have hin : i < R * C := by omega
  have hwh := white_here D hl hin
  cases hb : dot g i && !M.getD i false with
  | false =>
   have e1 : i_PartsOf_L1 N g (M, cnt, (i : Int)) = some (.inl (M, cnt, ((i + 1 : Nat) : Int))) := by
    unfold i_PartsOf_L1
    simp only
    rw [sel_pos (by omega)]
    refine Eq.trans (congrArg (fun o => bnd o _) hwh) ?_
    rw [bnd_mk, hb, sel_false, w64_nat (by omega)]
   have e2 : s_PartsOf_L2 N g (cnt, M, (i : Int)) = some (.inl (cnt, M, ((i + 1 : Nat) : Int))) := by
    unfold s_PartsOf_L2
    simp only
    rw [sel_pos (by omega), p_s_IsGrid hN, hg, bnd_mk, sel_true]
    refine Eq.trans (congrArg (fun o => bnd (bnd o _) _) hwh) ?_
    rw [bnd_mk, hb, sel_false, bnd_mk, w64_nat (by omega)]
   obtain ⟨v, q1, q2⟩ := parts_loop hN D hg m (i + 1) M cnt F (by omega) (by omega) hl hc
   exact ⟨v, by simp only [loopN, e1]; exact q1, by simp only [loopN, e2]; exact q2⟩
  | true =>
   have hb' := hb
   simp only [Bool.and_eq_true, Bool.not_eq_true'] at hb'
   obtain ⟨hw, hm⟩ := hb'
   have hdm := Nat.div_add_mod i C
   have hml : i % C < C := Nat.mod_lt _ (by omega)
   have hdl : i / C < R := (Nat.div_lt_iff_lt_mul (by omega)).2 (by omega)
   have hR2 := D.r2.2
   have hq0 : 0 ≤ ((i / C : Nat) : Int) := Int.natCast_nonneg _
   have hr0 : 0 ≤ ((i % C : Nat) : Int) := Int.natCast_nonneg _
   have hT : tgt R C ((i / C : Nat) : Int) ((i % C : Nat) : Int) i := ⟨by omega, by omega, by omega, by omega, by
    rw [← Int.natCast_mul, ← Int.natCast_add, Nat.mul_comm]
    exact congrArg Int.ofNat hdm.symm⟩
   have hol := offs_le M
   obtain ⟨M', e, V⟩ := visit_ok (N := N) D N M ((i / C : Nat) : Int) ((i % C : Nat) : Int) (by omega) (by omega) (by omega) (by omega) hl (by omega)
   obtain ⟨S, eS, hSl, hSa, hSc, hScl⟩ := p_s_l10Reach hN D hin
   have hsub : ∀ d, Conn C (R * C) (dot g) i d → on S d := fun d h => by
    induction h with
    | refl => exact hSa
    | step _ hn hw' ih => exact hScl _ _ ih hn hw'
   have hcl' : ∀ d e, on M' d → nbr C (R * C) d e → dot g e = true → on M' e := fun d e hd hn hwe => by
    by_cases h : on M d
    ·exact V.mono e (hc d e h hn hwe)
    ·exact V.cl d hd h e hn hwe
   have hin' : on M' i := V.tg i hT hw
   have hM'sub : ∀ d, Conn C (R * C) (dot g) i d → on M' d := fun d h => by
    induction h with
    | refl => exact hin'
    | step _ hn hw' ih => exact hcl' _ _ ih hn hw'
   have heq : orTo M S M.length = M' := by
    refine on_ext (by rw [orTo_len, V.len, hl]) fun d => ?_
    rw [orTo_on (by rw [hSl, hl])]
    constructor
    ·rintro (h | h)
     ·exact V.mono d h
     ·exact hM'sub d (hSc d h).2
    ·intro h
     by_cases h2 : on M d
     ·exact .inl h2
     ·obtain ⟨_, _, t, ht, _, hcn⟩ := V.new d h h2
      rw [tgt_one hT ht] at hcn
      exact .inr (hsub d hcn)
   have e1 : i_PartsOf_L1 N g (M, cnt, (i : Int)) = some (.inl (M', w64 (cnt + 1), ((i + 1 : Nat) : Int))) := by
    unfold i_PartsOf_L1
    simp only
    rw [sel_pos (by omega)]
    refine Eq.trans (congrArg (fun o => bnd o _) hwh) ?_
    rw [bnd_mk, hb, sel_true, chk_pos (by rw [D.c]; omega), chk_pos (by rw [D.c]; omega), D.c, tmod_nat, tdiv_nat, w64_in (n := ((i / C : Nat) : Int)) (by omega) (by omega)]
    unfold i_PartsOf_1
    rw [e, bnd_mk, w64_nat (by omega)]
   have e2 : s_PartsOf_L2 N g (cnt, M, (i : Int)) = some (.inl (w64 (cnt + 1), M', ((i + 1 : Nat) : Int))) := by
    unfold s_PartsOf_L2
    simp only
    rw [sel_pos (by omega), p_s_IsGrid hN, hg, bnd_mk, sel_true]
    refine Eq.trans (congrArg (fun o => bnd (bnd o _) _) hwh) ?_
    rw [bnd_mk, hb, sel_true, p_s_L3 (cnt, M, (i : Int)) (by simp only; omega) (by simp only; omega), bnd_mk]
    simp only
    rw [hl, eS, bnd_mk, p_s_L4 (by rw [hSl, hl]) (by omega) (by omega), bnd_mk, heq, w64_nat (by omega)]
   obtain ⟨v, q1, q2⟩ := parts_loop hN D hg m (i + 1) M' (w64 (cnt + 1)) F (by omega) (by omega) V.len hcl'
   exact ⟨v, by simp only [loopN, e1]; exact q1, by simp only [loopN, e2]; exact q2⟩
theorem p_Parts {N : Nat} (hN : 67108864 < N) {g : Gx.Grid} (hg : isGrid g = true) : ∃ v, i_PartsOf N g = some v ∧ s_PartsOf N g = some v := by
 obtain ⟨R, C, D⟩ := (isGrid_ok hg).dims
 have hrc := rc36 D.r2.2 D.c2.2
 have hlen := D.len
 have none0 : ∀ d, ¬ on (List.replicate (R * C) false) d := fun d hd => by
  unfold on at hd
  rw [List.getD_eq_getElem?_getD, List.getElem?_replicate] at hd
  split at hd <;> simp at hd
 obtain ⟨v, q1, q2⟩ := parts_loop hN D hg (R * C) 0 (List.replicate (R * C) false) 0 N (by omega) (by omega) (by simp) (fun d e h => absurd h (none0 d))
 refine ⟨v, ?_, ?_⟩
 ·unfold i_PartsOf
  rw [p_i_IsGrid hN, hg, bnd_mk, Bool.not_true, sel_false, chk_pos (by omega), show Int.toNat (g.mCells.length : Int) = R * C by omega]
  rw [show ((0 : Int)) = ((0 : Nat) : Int) from rfl] at *
  rw [q1]; rfl
 ·unfold s_PartsOf
  rw [p_s_L1 g (by omega) (by omega), bnd_mk, hlen]
  rw [show ((0 : Int)) = ((0 : Nat) : Int) from rfl] at *
  rw [q2]; rfl
def revTo (s : List UInt8) (k : Nat) : List UInt8 := (List.range s.length).map fun p => if p < k ∨ s.length ≤ p + k then s.getD (s.length - 1 - p) 0 else s.getD p 0
theorem revTo_get (s : List UInt8) (k p : Nat) : (revTo s k)[p]? = if p < s.length then some (if p < k ∨ s.length ≤ p + k then s.getD (s.length - 1 - p) 0 else s.getD p 0) else none := by
 unfold revTo
 rw [List.getElem?_map]
 by_cases h : p < s.length
 ·rw [List.getElem?_range h, if_pos h]; rfl
 ·rw [List.getElem?_eq_none (by simpa using h), if_neg h]; rfl
theorem revTo_len (s : List UInt8) (k : Nat) : (revTo s k).length = s.length := by simp [revTo]
theorem getD_some {s : List UInt8} {p : Nat} (h : p < s.length) : s[p]? = some (s.getD p 0) := by rw [List.getD_eq_getElem?_getD, List.getElem?_eq_getElem h]; rfl
theorem revTo_zero (s : List UInt8) : revTo s 0 = s := by
 apply List.ext_getElem?
 intro p
 rw [revTo_get]
 by_cases h : p < s.length
 ·rw [if_pos h, if_neg (by omega), getD_some h]
 ·rw [if_neg h, List.getElem?_eq_none (by omega)]
theorem revTo_all (s : List UInt8) : revTo s (s.length / 2) = s.reverse := by
 apply List.ext_getElem?
 intro p
 rw [revTo_get]
 by_cases h : p < s.length
 ·rw [if_pos h, List.getElem?_reverse h, getD_some (by omega)]
  split
  ·rfl
  ·rw [show s.length - 1 - p = p by omega]
 ·rw [if_neg h, List.getElem?_eq_none (by simpa using h)]
theorem p_g_Reverse {N : Nat} (hN : 67108864 < N) (s : List UInt8) (hs : s.length ≤ 1048576) : g_slices_Reverse_Sbyte_byte N s = some s.reverse := by
 unfold g_slices_Reverse_Sbyte_byte
 have := loopN_inv (N := N) (step := g_slices_Reverse_Sbyte_byte_L1 N) (fun k => (revTo s k, (k : Int), (s.length : Int) - 1 - (k : Int))) (n := s.length / 2) (b := s.reverse) (fun k hk => by
  have hl := revTo_len s k
  have gI : ∀ {L : List UInt8} {z : Int} {p : Nat}, z = (p : Int) → p < L.length → getI L z = some (L.getD p 0) := fun e h => by subst e; exact getI_nat (getD_some h)
  have g1 : (revTo s k).getD (s.length - 1 - k) 0 = s.getD (s.length - 1 - k) 0 := by
   rw [List.getD_eq_getElem?_getD, revTo_get, if_pos (by omega), if_neg (by omega)]; rfl
  have g2 : (revTo s k).getD k 0 = s.getD k 0 := by
   rw [List.getD_eq_getElem?_getD, revTo_get, if_pos (by omega), if_neg (by omega)]; rfl
  unfold g_slices_Reverse_Sbyte_byte_L1
  simp only
  rw [sel_pos (by omega), gI (p := s.length - 1 - k) (by omega) (by omega), bnd_mk, gI (p := k) (by omega) (by omega), bnd_mk, bnd_mk, gI (p := s.length - 1 - k) (by omega) (by simp [revTo_len]; omega), bnd_mk,
   w64_nat (by omega), w64_in (by omega) (by omega), g1, g2, show Int.toNat (k : Int) = k by omega, show Int.toNat ((s.length : Int) - 1 - (k : Int)) = s.length - 1 - k by omega]
  have el : ((revTo s k).set k (s.getD (s.length - 1 - k) 0)).set (s.length - 1 - k) (s.getD k 0) = revTo s (k + 1) := by
   apply List.ext_getElem?
   intro p
   rw [List.getElem?_set, List.getElem?_set, List.length_set, revTo_get, revTo_get, revTo_len]
   by_cases h1 : s.length - 1 - k = p
   ·subst h1
    rw [if_pos rfl, if_pos (by omega), if_pos (by omega), if_pos (by omega), show s.length - 1 - (s.length - 1 - k) = k by omega]
   ·rw [if_neg h1]
    by_cases h2 : k = p
    ·subst h2
     rw [if_pos rfl, if_pos (by omega), if_pos (by omega), if_pos (by omega)]
    ·rw [if_neg h2]
     by_cases h3 : p < s.length
     ·rw [if_pos h3, if_pos h3]
      by_cases h4 : p < k ∨ s.length ≤ p + k
      ·rw [if_pos h4, if_pos (by omega)]
      ·rw [if_neg h4, if_neg (by omega)]
     ·rw [if_neg h3, if_neg h3]
  rw [el, show (s.length : Int) - 1 - (k : Int) - 1 = (s.length : Int) - 1 - ((k + 1 : Nat) : Int) by omega]) (by
   unfold g_slices_Reverse_Sbyte_byte_L1
   simp only
   rw [sel_neg (by omega), revTo_all]) (by omega)
 rw [revTo_zero] at this
 rw [w64_in (by omega) (by omega)]
 simpa using this
theorem p_i_Backwards {N : Nat} (hN : 67108864 < N) (s : List UInt8) (hs : s.length ≤ 100) : i_Backwards N s = some s.reverse := by
 unfold i_Backwards
 rw [sel_neg (by omega), chk_pos (by omega), p_g_Reverse hN s (by omega), bnd_mk]
theorem p_s_Backwards {N : Nat} (hN : 67108864 < N) (s : List UInt8) (hs : s.length ≤ 100) : s_Backwards N s = some s.reverse := by
 unfold s_Backwards
 have := loop_fold (N := N) (step := s_Backwards_L1 N s) (fun i a => (a, (i : Int))) s (fun a x => x :: a) id (fun i a => a.length = i) (a := []) rfl
  (fun a _ => by unfold s_Backwards_L1; rw [sel_neg (by simp)]; rfl)
  (fun i a x ha hx hi => ⟨by
   unfold s_Backwards_L1
   simp only
   rw [sel_pos (by omega), sel_pos (by omega), w64_nat (by omega), chk_pos (by omega), sub_one hi, chk_pos (by simp; omega)]
   have e : s.getD i 0 = x := by rw [List.getD_eq_getElem?_getD, hx]; rfl
   rw [e]; rfl, by simp [ha]⟩) (by omega)
 rw [show (([] : List UInt8), (0 : Int)) = (([] : List UInt8), ((0 : Nat) : Int)) from rfl, this]
 have : ∀ (l a : List UInt8), l.foldl (fun a x => x :: a) a = l.reverse ++ a := by
  intro l
  induction l with
  | nil => intro a; rfl
  | cons x l ih => intro a; simp [ih]
 simp [this]
def isSym (g : Gx.Grid) : Bool := g.mCells == g.mCells.reverse
theorem p_i_IsSymmetric {N : Nat} (hN : 67108864 < N) {g : Gx.Grid} (hg : isGrid g = true) : i_IsSymmetric N g = some (isSym g) := by
 have hl := (isGrid_ok hg).small
 unfold i_IsSymmetric i_TurnGrid isSym
 rw [p_i_IsGrid hN, hg, bnd_mk, sel_true, bnd_mk, Bool.not_true, sel_false, p_i_Backwards hN _ (by omega), bnd_mk, bnd_mk]
 simp
theorem p_s_IsSymmetric {N : Nat} (hN : 67108864 < N) {g : Gx.Grid} (hg : isGrid g = true) : s_IsSymmetric N g = some (isSym g) := by
 have hl := (isGrid_ok hg).small
 unfold s_IsSymmetric s_TurnGrid isSym
 rw [p_s_IsGrid hN, hg, bnd_mk, sel_true, bnd_mk, Bool.not_true, sel_false, p_s_Backwards hN _ (by omega), bnd_mk, bnd_mk]
 have : (g.mCells.reverse == g.mCells) = (g.mCells == g.mCells.reverse) := by
  rw [Bool.eq_iff_iff]; simp only [beq_iff_eq]; exact eq_comm
 simp [this]
/-- the numbers of those for which something holds -/
def atL {α : Type} (p : α → Bool) : List α → Nat → List Int → List Int
 | [], _, a => a
 | x :: r, i, a => atL p r (i + 1) (if p x = true then a ++ [(i : Int)] else a)
theorem loop_idx {α γ : Type} {l : List α} {step : List Int × Int → Option (Sum (List Int × Int) γ)} (p : α → Bool) {fi : List Int → γ} {N : Nat}
  (hs : ∀ i x a, l[i]? = some x → i < l.length → a.length ≤ i → step (a, (i : Int)) = some (.inl (if p x = true then a ++ [(i : Int)] else a, w64 ((i : Int) + 1)))) (he : ∀ a, step (a, (l.length : Int)) = some (.inr (fi a)))
  (hl : l.length ≤ 4611686018427387904) (hN : l.length < N) : loopN step N ([], 0) = some (fi (atL p l 0 [])) := by
 have := loopN_list (N := N) (step := step) (fun i (a : Nat × List Int) => (a.2, (i : Int))) l (fun r a => fi (atL p r a.1 a.2)) (fun i a => a.1 = i ∧ a.2.length ≤ i) (a := (0, [])) ⟨rfl, Nat.le_refl _⟩
  (fun a _ => by rw [he]; rfl)
  (fun i a x r ha hx hr hi => by
   obtain ⟨h1, h2⟩ := ha
   left
   refine ⟨(i + 1, if p x = true then a.2 ++ [(i : Int)] else a.2), by rw [hs i x a.2 hx hi h2, w64_nat (by omega)], ⟨rfl, ?_⟩, ?_⟩
   ·split <;> simp <;> omega
   ·simp only [atL, h1]) hN
 exact this
theorem atL_map {α β : Type} (f : α → β) (p : β → Bool) : ∀ (l : List α) (i : Nat) (a : List Int), atL p (l.map f) i a = atL (fun x => p (f x)) l i a
 | [], _, _ => rfl
 | x :: r, i, a => by simp only [List.map_cons, atL, atL_map f p r]
theorem atL_len {α : Type} (p : α → Bool) : ∀ (l : List α) (i : Nat) (a : List Int), a.length ≤ (atL p l i a).length ∧ ((atL p l i a).length = a.length ↔ ∀ x ∈ l, p x = false)
 | [], i, a => by simp [atL]
 | x :: r, i, a => by
  simp only [atL]
  obtain ⟨h1, h2⟩ := atL_len p r (i + 1) (if p x = true then a ++ [(i : Int)] else a)
  cases hp : p x with
  | true =>
   rw [hp] at h1 h2
   simp only [if_true, List.length_append, List.length_singleton] at h1 h2 ⊢
   refine ⟨by omega, ⟨fun h => by omega, fun h => ?_⟩⟩
   have := h x (by simp)
   rw [hp] at this; cases this
  | false =>
   rw [hp] at h1 h2
   simp only [Bool.false_eq_true, if_false] at h1 h2 ⊢
   refine ⟨h1, h2.trans ⟨fun h y hy => ?_, fun h y hy => h y (List.mem_cons_of_mem _ hy)⟩⟩
   rcases List.mem_cons.1 hy with rfl | hy
   ·exact hp
   ·exact h y hy
theorem has_first (l : List Int) (c : Int) : ∀ (i : Nat), (firstV (fun (i : Nat) (x : Int) => if (x == c) = true then some (i : Int) else none) l i (-1) ≥ 0) = (c ∈ l) := by
 induction l with
 | nil => intro i; simp [firstV]
 | cons x r ih =>
  intro i
  simp only [firstV]
  by_cases h : x = c
  ·subst h; simp
  ·have h' : ¬ c = x := fun e => h e.symm
   simp only [beq_iff_eq, h, if_false, List.mem_cons, h', false_or]
   simpa only [beq_iff_eq] using ih (i + 1)
theorem p_g_ContainsI {N : Nat} (l : List Int) (c : Int) (hl : l.length ≤ 1048576) (hN : 67108864 < N) : g_slices_Contains_Sint_int N l c = some (decide (c ∈ l)) := by
 unfold g_slices_Contains_Sint_int g_slices_Index_Sint_int
 rw [loop_first (N := N) (l := l) (fun (i : Nat) (x : Int) => (if (x == c) = true then some (i : Int) else none).map Cut.rt) (b := Cut.nx ()) (fun i x hx hi => by
  unfold g_slices_Index_Sint_int_L1
  rw [sel_pos (by omega), getI_nat hx, bnd_mk, show (c == x) = (x == c) by rw [Bool.eq_iff_iff]; simp only [beq_iff_eq]; exact eq_comm]
  cases x == c <;> rfl) (by unfold g_slices_Index_Sint_int_L1; rw [sel_neg (by omega)]) (by omega) (by omega)]
 rw [first_cut (fun (i : Nat) (x : Int) => if (x == c) = true then some (i : Int) else none), bnd_mk]
 exact congrArg some (decide_eq_decide.2 (by rw [has_first l c 0]))
theorem p_s_l8Has {N : Nat} (l : List Int) (c : Int) (hl : l.length ≤ 1048576) (hN : 67108864 < N) : s_l8Has N l c = some (decide (c ∈ l)) := by
 unfold s_l8Has
 rw [loop_all (N := N) (l := l) (fun x => !(x == c)) (b := true) (fun i x hx hi => by
  unfold s_l8Has_L1
  rw [sel_pos (by omega), getI_nat hx, bnd_mk]
  cases x == c <;> rfl) (by unfold s_l8Has_L1; rw [sel_neg (by omega)]) (by omega) (by omega)]
 split
 ·rename_i h
  rw [decide_eq_false]
  intro hc
  have := List.all_eq_true.1 h c hc
  simp at this
 ·rename_i h
  rw [decide_eq_true]
  refine Classical.byContradiction fun hc => h (List.all_eq_true.2 fun x hx => ?_)
  have : ¬ x = c := fun e => hc (e ▸ hx)
  simpa using this
def slotsAt (g : Gx.Grid) (c : Int) : List Int := atL (fun s => decide (c ∈ cellsL g s)) (slots g) 0 []
theorem cellsL_six {g : Gx.Grid} {R C : Nat} (D : Dims g R C) {s : Gx.Slot} (hs : s ∈ slots g) : (cellsL g s).length ≤ 6 := by
 obtain ⟨c, S⟩ := slots_in D hs
 rw [cellsL_len]; exact S.small D
theorem p_i_SlotsAt {N : Nat} (hN : 67108864 < N) {g : Gx.Grid} {R C : Nat} (D : Dims g R C) (c : Int) : i_SlotsAt N g c = some (slotsAt g c) := by
 have h72 := slots_len g
 unfold i_SlotsAt
 rw [p_i_layout hN, bnd_mk, loop_idx (N := N) (l := (slots g).map (cellsL g)) (fun L => decide (c ∈ L)) (fi := id) (fun i x a hx hi ha => by
  have hx6 : x.length ≤ 6 := by
   obtain ⟨s, hs, rfl⟩ := List.mem_map.1 (List.mem_of_getElem? hx)
   exact cellsL_six D hs
  have : i < 72 := by simp at hi; omega
  unfold i_SlotsAt_L1
  simp only
  rw [sel_pos (by omega), getI_nat hx, bnd_mk, p_g_ContainsI _ _ (by omega) hN, bnd_mk, chk_pos (by simp; omega)]
  cases decide (c ∈ x) <;> rfl) (fun a => by unfold i_SlotsAt_L1; rw [sel_neg (by simp)]; rfl) (by simp; omega) (by simp; omega), atL_map]
 rfl
theorem p_s_SlotsAt {N : Nat} (hN : 67108864 < N) {g : Gx.Grid} {R C : Nat} (D : Dims g R C) (c : Int) : s_SlotsAt N g c = some (slotsAt g c) := by
 have h72 := slots_len g
 have hlen := D.len
 have hrc := rc36 D.r2.2 D.c2.2
 unfold s_SlotsAt
 rw [p_s_SlotsOf hN g (by omega), bnd_mk, loop_idx (N := N) (l := slots g) (fun s => decide (c ∈ cellsL g s)) (fi := id) (fun i x a hx hi ha => by
  have hx6 := cellsL_six D (List.mem_of_getElem? hx)
  unfold s_SlotsAt_L1
  simp only
  rw [sel_pos (by omega), getI_nat hx, bnd_mk, p_s_CellsOf hN D (by omega) (List.mem_of_getElem? hx), bnd_mk, p_s_l8Has _ _ (by omega) hN, bnd_mk, chk_pos (by simp; omega)]
  cases decide (c ∈ cellsL g x) <;> rfl) (fun a => by unfold s_SlotsAt_L1; rw [sel_neg (by simp)]; rfl) (by omega) (by omega)]
 rfl
def unch (g : Gx.Grid) (L : List Int) : Int := L.foldl (fun a c => if (!(((slotsAt g c).length : Int) == 2)) = true then w64 (a + 1) else a) 0
theorem p_i_Unch_loop {N : Nat} (hN : 67108864 < N) {g : Gx.Grid} {R C : Nat} (D : Dims g R C) (L : List Int) (hL : L.length ≤ 1048576) : loopN (i_UncheckedIn_L1 N L g) N (0, 0) = some (unch g L) := by
 have := loop_fold (N := N) (step := i_UncheckedIn_L1 N L g) (fun i a => (a, (i : Int))) L (fun a c => if (!(((slotsAt g c).length : Int) == 2)) = true then w64 (a + 1) else a) id (fun _ _ => True) (a := 0) trivial
  (fun a _ => by unfold i_UncheckedIn_L1; rw [sel_neg (by simp)]; rfl)
  (fun i a c _ hc hi => ⟨by
   unfold i_UncheckedIn_L1 i_IsChecked
   simp only
   rw [sel_pos (by omega), getI_nat hc, bnd_mk, p_i_SlotsAt hN D, bnd_mk, bnd_mk, w64_nat (by omega)]
   cases (((slotsAt g c).length : Int) == 2) <;> rfl, trivial⟩) (by omega)
 exact this
theorem p_s_Unch_loop {N : Nat} (hN : 67108864 < N) {g : Gx.Grid} {R C : Nat} (D : Dims g R C) (L : List Int) (hL : L.length ≤ 1048576) : loopN (s_UncheckedIn_L1 N L g) N (0, 0) = some (unch g L) := by
 have := loop_fold (N := N) (step := s_UncheckedIn_L1 N L g) (fun i a => (a, (i : Int))) L (fun a c => if (!(((slotsAt g c).length : Int) == 2)) = true then w64 (a + 1) else a) id (fun _ _ => True) (a := 0) trivial
  (fun a _ => by unfold s_UncheckedIn_L1; rw [sel_neg (by simp)]; rfl)
  (fun i a c _ hc hi => ⟨by
   unfold s_UncheckedIn_L1 s_IsChecked
   simp only
   rw [sel_pos (by omega), getI_nat hc, bnd_mk, p_s_SlotsAt hN D, bnd_mk, bnd_mk, w64_nat (by omega)]
   cases (((slotsAt g c).length : Int) == 2) <;> rfl, trivial⟩) (by omega)
 exact this
theorem p_i_Unch {N : Nat} (hN : 67108864 < N) {g : Gx.Grid} {R C : Nat} (D : Dims g R C) {i : Nat} {s : Gx.Slot} (hs : (slots g)[i]? = some s) : i_UncheckedIn N g (i : Int) = some (unch g (cellsL g s)) := by
 have hi := (List.getElem?_eq_some_iff.1 hs).1
 have h6 := cellsL_six D (List.mem_of_getElem? hs)
 unfold i_UncheckedIn
 rw [p_i_layout hN, bnd_mk, p_i_at, bnd_mk, List.length_map, decide_eq_true (p := (0 ≤ (i : Int))) (by omega), decide_eq_true (p := ((i : Int) < ((slots g).length : Int))) (by omega), Bool.true_and, Bool.not_true, sel_false,
  getI_nat (x := cellsL g s) (by rw [List.getElem?_map, hs]; rfl), bnd_mk, p_i_Unch_loop hN D _ (by omega), bnd_mk]
theorem p_s_Unch {N : Nat} (hN : 67108864 < N) {g : Gx.Grid} {R C : Nat} (D : Dims g R C) {i : Nat} {s : Gx.Slot} (hs : (slots g)[i]? = some s) : s_UncheckedIn N g (i : Int) = some (unch g (cellsL g s)) := by
 have hi := (List.getElem?_eq_some_iff.1 hs).1
 have h6 := cellsL_six D (List.mem_of_getElem? hs)
 have h72 := slots_len g
 have hlen := D.len
 have hrc := rc36 D.r2.2 D.c2.2
 unfold s_UncheckedIn
 rw [p_s_SlotsOf hN g (by omega), bnd_mk, w64_in (by omega) (by omega), p_s_l1In, bnd_mk, decide_eq_true (by omega), Bool.not_true, sel_false, getI_nat hs, bnd_mk, p_s_CellsOf hN D (by omega) (List.mem_of_getElem? hs), bnd_mk, p_s_Unch_loop hN D _ (by omega), bnd_mk]
theorem mget_mput (a k v : Int) : ∀ l : List (Int × Int), mget a (mput k v l) = if a = k then v else mget a l
 | [] => by
  simp only [mput, mget]
  by_cases h : a = k
  ·subst h; simp
  ·have h' : (a == k) = false := by simpa using h
   rw [h', if_neg h]
 | (j, u) :: r => by
  simp only [mput]
  by_cases h : k = j
  ·subst h
   simp only [beq_self_eq_true, mget]
   by_cases h2 : a = k
   ·subst h2; simp
   ·have h' : (a == k) = false := by simpa using h2
    rw [h', if_neg h2]
  ·have : (k == j) = false := by simpa using h
   rw [this]
   simp only [mget]
   by_cases h2 : a = j
   ·subst h2
    have : ¬ a = k := fun e => h e.symm
    simp [this]
   ·have : (a == j) = false := by simpa using h2
    rw [this]
    simp only [mget_mput a k v r]
def marked (L : List Int) (t : List (Int × Int)) : List (Int × Int) := L.foldl (fun t c => mput c 1 t) t
theorem mget_marked (a : Int) : ∀ (L : List Int) (t : List (Int × Int)), mget a (marked L t) = if a ∈ L then 1 else mget a t
 | [], t => by simp [marked]
 | c :: r, t => by
  have := mget_marked a r (mput c 1 t)
  simp only [marked, List.foldl_cons] at this ⊢
  rw [this, mget_mput]
  by_cases h : a ∈ r
  ·simp [h]
  ·by_cases h2 : a = c <;> simp [h, h2]
def markedAll (x : List (List Int)) (t : List (Int × Int)) : List (Int × Int) := x.foldl (fun t L => marked L t) t
theorem mget_all (a : Int) : ∀ (x : List (List Int)) (t : List (Int × Int)), mget a (markedAll x t) = if ∃ L ∈ x, a ∈ L then 1 else mget a t
 | [], t => by simp [markedAll]
 | L :: r, t => by
  have := mget_all a r (marked L t)
  simp only [markedAll, List.foldl_cons] at this ⊢
  rw [this, mget_marked]
  by_cases h : ∃ L ∈ r, a ∈ L
  ·rw [if_pos h, if_pos]; obtain ⟨M, h1, h2⟩ := h; exact ⟨M, List.mem_cons_of_mem _ h1, h2⟩
  ·rw [if_neg h]
   by_cases h2 : a ∈ L
   ·rw [if_pos h2, if_pos]; exact ⟨L, by simp, h2⟩
   ·rw [if_neg h2, if_neg]; rintro ⟨M, h3, h4⟩
    rcases List.mem_cons.1 h3 with rfl | h3
    ·exact h2 h4
    ·exact h ⟨M, h3, h4⟩
def bare (g : Gx.Grid) (p : Nat) : Bool := dot g p && !((slots g).any fun s => decide ((p : Int) ∈ cellsL g s))
def isAlone (g : Gx.Grid) : Bool := !(allI (fun p (_ : UInt8) => !bare g p) g.mCells 0)
theorem p_i_alone {N : Nat} (hN : 67108864 < N) {g : Gx.Grid} (hg : isGrid g = true) : i_alone N g g.mCells = some (isAlone g) := by
 obtain ⟨R, C, D⟩ := (isGrid_ok hg).dims
 have h72 := slots_len g
 have hlen := D.len
 have hrc := rc36 D.r2.2 D.c2.2
 unfold i_alone
 have l2 : ∀ (L : List Int) (t : List (Int × Int)), L.length ≤ 6 → loopN (i_alone_L2 N L) N (t, 0) = some (marked L t) := fun L t hL => by
  have := loop_fold (N := N) (step := i_alone_L2 N L) (fun i a => (a, (i : Int))) L (fun t c => mput c 1 t) id (fun _ _ => True) (a := t) trivial
   (fun a _ => by unfold i_alone_L2; rw [sel_neg (by simp)]; rfl)
   (fun i a c _ hc hi => ⟨by
    unfold i_alone_L2
    simp only
    rw [sel_pos (by omega), getI_nat hc, bnd_mk, w64_nat (by omega)], trivial⟩) (by omega)
  exact this
 have l1 : loopN (i_alone_L1 N ((slots g).map (cellsL g))) N (([] : List (Int × Int)), 0) = some (markedAll ((slots g).map (cellsL g)) []) := by
  have := loop_fold (N := N) (step := i_alone_L1 N ((slots g).map (cellsL g))) (fun i a => (a, (i : Int))) ((slots g).map (cellsL g)) (fun t L => marked L t) id (fun _ _ => True) (a := []) trivial
   (fun a _ => by unfold i_alone_L1; rw [sel_neg (by simp)]; rfl)
   (fun i a L _ hL hi => ⟨by
    have hx6 : L.length ≤ 6 := by
     obtain ⟨s, hs, rfl⟩ := List.mem_map.1 (List.mem_of_getElem? hL)
     exact cellsL_six D hs
    have hi' : i < (slots g).length := by simpa using hi
    unfold i_alone_L1
    simp only
    rw [sel_pos (by omega), getI_nat hL, bnd_mk, l2 L a hx6, bnd_mk, w64_nat (by omega)], trivial⟩) (by simp; omega)
  exact this
 rw [p_i_layout hN, bnd_mk, l1, bnd_mk, loop_allI (N := N) (γ := Unit) (l := g.mCells) (fun p (_ : UInt8) => !bare g p) (b := true) (fun i c hc hi => by
  unfold i_alone_L3
  rw [sel_pos (by omega), chk_pos (by omega), dot_byte (by omega), mget_all]
  have hcov : (∃ L ∈ (slots g).map (cellsL g), (i : Int) ∈ L) ↔ ((slots g).any fun s => decide ((i : Int) ∈ cellsL g s)) = true := by
   rw [List.any_eq_true]
   constructor
   ·rintro ⟨L, hL, h⟩
    obtain ⟨s, hs, rfl⟩ := List.mem_map.1 hL
    exact ⟨s, hs, decide_eq_true h⟩
   ·rintro ⟨s, hs, h⟩
    exact ⟨cellsL g s, List.mem_map.2 ⟨s, hs, rfl⟩, of_decide_eq_true h⟩
  unfold bare
  cases hd : dot g i with
  | false => rfl
  | true =>
   rw [sel_true]
   by_cases hcv : ∃ L ∈ (slots g).map (cellsL g), (i : Int) ∈ L
   ·rw [if_pos hcv, hcov.1 hcv]; rfl
   ·have hcv' : ((slots g).any fun s => decide ((i : Int) ∈ cellsL g s)) = false := by
     cases h : (slots g).any fun s => decide ((i : Int) ∈ cellsL g s) with
     | false => rfl
     | true => exact absurd (hcov.2 h) hcv
    rw [if_neg hcv, hcv']
    have hdot : c = 46 := by
     unfold dot at hd
     rw [List.getD_eq_getElem?_getD, hc] at hd
     simpa using hd
    rw [chk_pos (by omega), byteI_nat hc, p_i_isLetter, bnd_mk]
    subst hdot
    rfl) (by unfold i_alone_L3; rw [sel_neg (by omega)]) (by omega) (by omega)]
 unfold isAlone
 cases allI (fun p (_ : UInt8) => !bare g p) g.mCells 0 <;> rfl
def long3 (g : Gx.Grid) : Bool := (slots g).all fun s => !decide (s.mLength < 3)
def okUnch (g : Gx.Grid) : Bool := (slots g).all fun s => !decide (w64 (2 * unch g (cellsL g s)) > s.mLength)
theorem p_s_l10Short {N : Nat} (hN : 67108864 < N) {g : Gx.Grid} (hg : g.mCells.length ≤ 1048576) : s_l10Short N g = some (!long3 g) := by
 have h72 := slots_len g
 unfold s_l10Short long3
 rw [p_s_SlotsOf hN g hg, bnd_mk, loop_all (N := N) (l := slots g) (fun s => !decide (s.mLength < 3)) (b := true) (fun i x hx hi => by
  unfold s_l10Short_L1
  rw [sel_pos (by omega), getI_nat hx, bnd_mk]
  cases decide (x.mLength < 3) <;> rfl) (by unfold s_l10Short_L1; rw [sel_neg (by omega)]) (by omega) (by omega)]
 cases (slots g).all fun s => !decide (s.mLength < 3) <;> rfl
theorem p_s_l10Alone {N : Nat} (hN : 67108864 < N) {g : Gx.Grid} (hg : isGrid g = true) : s_l10Alone N g = some (!okUnch g || isAlone g) := by
 obtain ⟨R, C, D⟩ := (isGrid_ok hg).dims
 have h72 := slots_len g
 have hlen := D.len
 have hrc := rc36 D.r2.2 D.c2.2
 unfold s_l10Alone okUnch
 rw [p_s_SlotsOf hN g (by omega), bnd_mk, loop_all (N := N) (l := slots g) (fun s => !decide (w64 (2 * unch g (cellsL g s)) > s.mLength)) (b := true) (fun i x hx hi => by
  unfold s_l10Alone_L1
  rw [sel_pos (by omega), p_s_Unch hN D hx, bnd_mk, getI_nat hx, bnd_mk]
  cases decide (w64 (2 * unch g (cellsL g x)) > x.mLength) <;> rfl) (by unfold s_l10Alone_L1; rw [sel_neg (by omega)]) (by omega) (by omega)]
 cases (slots g).all fun s => !decide (w64 (2 * unch g (cellsL g s)) > s.mLength) with
 | false => rfl
 | true =>
  rw [if_pos rfl, loop_allI (N := N) (γ := Unit) (l := g.mCells) (fun p (_ : UInt8) => !bare g p) (b := true) (fun i c hc hi => by
   unfold s_l10Alone_L2 s_IsWhite
   rw [sel_pos (by omega), p_s_IsGrid hN, hg, bnd_mk, sel_true, w64_in (by omega) (by omega), p_s_l1In, bnd_mk, decide_eq_true (by omega), sel_true, chk_pos (by omega), dot_byte (by omega), bnd_mk, p_s_SlotsAt hN D, bnd_mk]
   unfold bare
   cases hd : dot g i with
   | false => rfl
   | true =>
    rw [sel_true]
    obtain ⟨q1, q2⟩ := atL_len (fun s => decide ((i : Int) ∈ cellsL g s)) (slots g) 0 []
    cases hcv : (slots g).any fun s => decide ((i : Int) ∈ cellsL g s) with
    | false =>
     have hz : (slotsAt g (i : Int)).length = 0 := q2.2 fun x hx => by
      cases h : decide ((i : Int) ∈ cellsL g x) with
      | false => rfl
      | true =>
       have h5 : ((slots g).any fun s => decide ((i : Int) ∈ cellsL g s)) = true := List.any_eq_true.2 ⟨x, hx, h⟩
       rw [hcv] at h5; cases h5
     rw [hz]; rfl
    | true =>
     have hz : ¬ (slotsAt g (i : Int)).length = 0 := fun h => by
      obtain ⟨x, hx, h2⟩ := List.any_eq_true.1 hcv
      have h3 := q2.1 h x hx
      rw [h2] at h3; cases h3
     have : (((slotsAt g (i : Int)).length : Int) == 0) = false := by simpa using hz
     rw [this]; rfl) (by unfold s_l10Alone_L2; rw [sel_neg (by omega)]) (by omega) (by omega)]
  unfold isAlone
  cases allI (fun p (_ : UInt8) => !bare g p) g.mCells 0 <;> rfl
theorem p_FormOf {N : Nat} (hN : 67108864 < N) (g : Gx.Grid) : ∃ v, i_FormOf N g = some v ∧ s_FormOf N g = some v ∧ (v = 0 → isGrid g = true) := by
 unfold i_FormOf s_FormOf
 rw [p_i_IsGrid hN, p_s_IsGrid hN, bnd_mk, bnd_mk]
 cases hg : isGrid g with
 | false => exact ⟨1, rfl, rfl, by simp⟩
 | true =>
  obtain ⟨R, C, D⟩ := (isGrid_ok hg).dims
  have h72 := slots_len g
  have hlen := D.len
  have hrc := rc36 D.r2.2 D.c2.2
  rw [Bool.not_true, sel_false, sel_false, p_i_IsSymmetric hN hg, p_s_IsSymmetric hN hg, bnd_mk, bnd_mk]
  cases isSym g with
  | false => exact ⟨2, rfl, rfl, fun _ => rfl⟩
  | true =>
   obtain ⟨v, q1, q2⟩ := p_Parts hN hg
   unfold i_IsConnected s_IsConnected
   rw [Bool.not_true, sel_false, sel_false, q1, q2, bnd_mk, bnd_mk, bnd_mk]
   cases v == 1 with
   | false => exact ⟨3, rfl, rfl, fun _ => rfl⟩
   | true =>
    rw [Bool.not_true, sel_false, sel_false, p_s_l10Short hN (by omega), bnd_mk, p_i_SlotsOf hN, bnd_mk, loop_all (N := N) (l := slots g) (fun s => !decide (s.mLength < 3)) (b := (4 : Int)) (fun i x hx hi => by
     unfold i_FormOf_L1
     rw [sel_pos (by omega), getI_nat hx, bnd_mk]
     cases decide (x.mLength < 3) <;> rfl) (by unfold i_FormOf_L1; rw [sel_neg (by omega)]) (by omega) (by omega)]
    unfold long3
    cases (slots g).all fun s => !decide (s.mLength < 3) with
    | false => exact ⟨4, rfl, rfl, fun _ => rfl⟩
    | true =>
     rw [if_pos rfl, p_s_l10Alone hN hg, loop_all (N := N) (l := slots g) (fun s => !decide (w64 (2 * unch g (cellsL g s)) > s.mLength)) (b := (5 : Int)) (fun i x hx hi => by
      unfold i_FormOf_L2
      rw [sel_pos (by omega), getI_nat hx, bnd_mk, p_i_Unch hN D hx, bnd_mk]
      cases decide (w64 (2 * unch g (cellsL g x)) > x.mLength) <;> rfl) (by unfold i_FormOf_L2; rw [sel_neg (by omega)]) (by omega) (by omega)]
     unfold okUnch
     cases (slots g).all fun s => !decide (w64 (2 * unch g (cellsL g s)) > s.mLength) with
     | false => exact ⟨5, rfl, rfl, fun _ => rfl⟩
     | true =>
      rw [if_pos rfl, p_i_alone hN hg]
      cases isAlone g
      ·exact ⟨0, rfl, rfl, fun _ => rfl⟩
      ·exact ⟨5, rfl, rfl, fun _ => rfl⟩
def formV (N : Nat) (g : Gx.Grid) : Int := (s_FormOf N g).getD 0
theorem formV_ok {N : Nat} (hN : 67108864 < N) (g : Gx.Grid) : i_FormOf N g = some (formV N g) ∧ s_FormOf N g = some (formV N g) ∧ (formV N g = 0 → isGrid g = true) := by
 obtain ⟨v, q1, q2, q3⟩ := p_FormOf hN g
 unfold formV
 rw [q1, q2]; exact ⟨rfl, rfl, q3⟩
structure CpDraft (x : Gx.Draft) : Prop where
 clues : x.mClues.length ≤ 1048576
 play : ∀ c ∈ x.mClues, c.mPlay.length ≤ 1048576
 cells : x.mGrid.mCells.length ≤ 1048576
structure CpHouse (h : Gx.House) : Prop where
 list : h.mList.length ≤ 1048576
 dict : h.mDict.length ≤ 1048576
 desk : CpDraft h.mDesk
 issl : h.mIssues.length ≤ 1048576
 iss : ∀ x ∈ h.mIssues, CpIss x
 uses : h.mUses.length ≤ 1048576
 corr : h.mCorrections.length ≤ 1048576
 corrp : ∀ c ∈ h.mCorrections, c.mClue.mPlay.length ≤ 1048576
 ents : h.mEntries.length ≤ 1048576
theorem cp_house {h : Gx.House} (hs : h.size ≤ 1048576) : CpHouse h := by
 obtain ⟨h1, h2⟩ := cp_issues hs
 unfold Gx.House.size Gx.Draft.size Gx.Grid.size at hs
 refine ⟨by omega, by omega, ⟨by omega, fun c hc => ?_, by omega⟩, h1, h2, by omega, by omega, fun c hc => ?_, by omega⟩
 ·have h3 : c.size ≤ (h.mDesk.mClues.map (fun e : Gx.Clue => e.size)).sum := mem_sum (fun e : Gx.Clue => e.size) hc
  have := @cp_clue c
  omega
 ·have h3 : c.size ≤ (h.mCorrections.map (fun e : Gx.Correction => e.size)).sum := mem_sum (fun e : Gx.Correction => e.size) hc
  have h4 := @cp_clue c.mClue
  have h5 : c.mClue.size ≤ c.size := by unfold Gx.Correction.size; omega
  omega
theorem p_i_copyDraft {N : Nat} (hN : 67108864 < N) {x : Gx.Draft} (hx : CpDraft x) : i_copyDraft N x = some x := by
 unfold i_copyDraft
 rw [p_i_copyClues hN _ hx.clues hx.play, bnd_mk]
theorem p_s_l27Copy {N : Nat} (hN : 67108864 < N) {x : Gx.Draft} (hx : CpDraft x) : s_l27Copy N x = some x := by
 unfold s_l27Copy
 rw [p_s_l21Clues hN _ hx.clues hx.play, bnd_mk]
theorem p_i_copyCorrections {N : Nat} (hN : 67108864 < N) (l : List Gx.Correction) (hl : l.length ≤ 1048576) (hp : ∀ c ∈ l, c.mClue.mPlay.length ≤ 1048576) : i_copyCorrections N l = some l := by
 unfold i_copyCorrections
 rw [loop_map (N := N) (l := l) (fun x => x) (fi := id) (fun i x a hx hi ha => by
  have hc := hp x (List.mem_of_getElem? hx)
  unfold i_copyCorrections_L1 i_copyClue g_slices_Clone_Simpl_Step_impl_Step
  simp only
  rw [sel_pos (by omega), getI_nat hx, bnd_mk, chk_pos (by omega), bnd_mk, bnd_mk, chk_pos (by simp; omega)]) (fun a => by unfold i_copyCorrections_L1; rw [sel_neg (by simp)]; rfl) (by omega) (by omega)]
 simp
theorem p_s_l31Copy {N : Nat} (hN : 67108864 < N) (l : List Gx.Correction) (hl : l.length ≤ 1048576) (hp : ∀ c ∈ l, c.mClue.mPlay.length ≤ 1048576) : s_l31Copy N l = some l := by
 unfold s_l31Copy
 rw [loop_map (N := N) (l := l) (fun x => x) (fi := id) (fun i x a hx hi ha => by
  have hc := hp x (List.mem_of_getElem? hx)
  unfold s_l31Copy_L1 s_l18Copy
  simp only
  rw [sel_pos (by omega), getI_nat hx, bnd_mk, chk_pos (by simp; omega), bnd_mk, chk_pos (by simp; omega)]) (fun a => by unfold s_l31Copy_L1; rw [sel_neg (by simp)]; rfl) (by omega) (by omega)]
 simp
theorem p_i_copyHouse {N : Nat} (hN : 67108864 < N) {h : Gx.House} (hx : CpHouse h) : i_copyHouse N h = some h := by
 have l1 := hx.list
 have l2 := hx.dict
 have l3 := hx.uses
 have l4 := hx.ents
 have l5 := hx.issl
 unfold i_copyHouse g_slices_Clone_Simpl_Listed_impl_Listed g_slices_Clone_Simpl_Meaning_impl_Meaning g_slices_Clone_Simpl_Used_impl_Used g_slices_Clone_Simpl_Entry_impl_Entry
 rw [chk_pos (by omega), bnd_mk, chk_pos (by omega), bnd_mk, p_i_copyDraft hN hx.desk, bnd_mk,
  loop_map (N := N) (l := h.mIssues) (fun x => x) (fi := id) (fun i x a hx' hi ha => by
   unfold i_copyHouse_L1
   simp only
   rw [sel_pos (by omega), getI_nat hx', bnd_mk, p_i_copyIssue hN (hx.iss x (List.mem_of_getElem? hx')), bnd_mk, chk_pos (by simp; omega)]) (fun a => by unfold i_copyHouse_L1; rw [sel_neg (by simp)]; rfl) (by omega) (by omega),
  bnd_mk, chk_pos (by omega), bnd_mk, p_i_copyCorrections hN _ hx.corr hx.corrp, bnd_mk, chk_pos (by omega), bnd_mk, List.map_id']
 rfl
theorem p_s_l33Copy {N : Nat} (hN : 67108864 < N) {h : Gx.House} (hx : CpHouse h) : s_l33Copy N h = some h := by
 have l1 := hx.list
 have l2 := hx.dict
 have l3 := hx.uses
 have l4 := hx.ents
 have l5 := hx.issl
 unfold s_l33Copy
 rw [chk_pos (by simp; omega), chk_pos (by simp; omega), p_s_l27Copy hN hx.desk, bnd_mk, chk_pos (by simp; omega), p_s_l31Copy hN _ hx.corr hx.corrp, bnd_mk, chk_pos (by simp; omega),
  loop_map (N := N) (l := h.mIssues) (fun x => x) (fi := id) (fun i x a hx' hi ha => by
   unfold s_l33Copy_L1
   simp only
   rw [sel_pos (by omega), getI_nat hx', bnd_mk, p_s_l30Copy hN (hx.iss x (List.mem_of_getElem? hx')), bnd_mk, chk_pos (by simp; omega)]) (fun a => by unfold s_l33Copy_L1; rw [sel_neg (by simp)]; rfl) (by omega) (by omega),
  bnd_mk, List.map_id']
 rfl
theorem mark_house {N : Nat} (hN : 67108864 < N) (g : Gx.House) (hs : g.size ≤ 4194303) : ∃ a b c d e f i, ∃ n : Nat, l_markHouse N g 1 = some (a, b, c, d, e, f, i, (n : Int)) := by
 have hc := cntHouse_le g 1
 exact ⟨_, _, _, _, _, _, _, _, p_markHouse hN g 1 (by omega)⟩
theorem marks_house {N : Nat} (hN : 67108864 < N) (g : Gx.House) (hs : g.size ≤ 4194303) : ∃ a b c d e f i, ∃ n : Nat, l_markHouse N g 1 = some (a, b, c, d, e, f, i, (n : Int)) ∧
  l_heldHouse N ⟨a, b, ⟨⟨g.mDesk.mGrid.mRows, g.mDesk.mGrid.mCols, g.mDesk.mGrid.mCells⟩, g.mDesk.mFill, c, g.mDesk.mVersion⟩, d, e, f, i, g.mNow⟩ 1 = some (n : Int) := by
 have hc := cntHouse_le g 1
 have hm := p_markHouse hN g 1 (by omega)
 exact ⟨_, _, _, _, _, _, _, _, hm, p_heldHouse hN g _ 1 rfl rfl rfl rfl rfl rfl rfl (by omega)⟩
theorem szF_ok {a : Nat} {left : Int} (h : ¬ szF a left < 0) : szF a left = left - a ∧ (a : Int) ≤ left := by
 unfold szF at h ⊢
 split
 ·rename_i h1; rw [if_pos h1] at h; omega
 ·rename_i h1; rw [if_neg h1] at h; omega
def newDraft (N : Nat) (g : Gx.Grid) : Gx.Draft × Bool := if formV N g = 0 then (⟨g, emptyFill g, List.replicate (slots g).length ⟨0, []⟩, 1⟩, true) else (⟨⟨0, 0, []⟩, [], [], 0⟩, false)
theorem p_i_NewDraft {N : Nat} (hN : 67108864 < N) (g : Gx.Grid) : i_NewDraft N g = some (newDraft N g) := by
 obtain ⟨q1, _, q3⟩ := formV_ok hN g
 have h72 := slots_len g
 unfold i_NewDraft newDraft
 rw [q1, bnd_mk]
 by_cases h : formV N g = 0
 ·have e : (formV N g != 0) = false := by simp [h]
  rw [if_pos h, e, sel_false, p_i_EmptyFill hN, bnd_mk, p_i_SlotsOf hN, bnd_mk, chk_pos ⟨by omega, by omega⟩, Int.toNat_natCast]
 ·have e : (formV N g != 0) = true := by simp [h]
  rw [if_neg h, e, sel_true]
theorem p_s_NewDraft {N : Nat} (hN : 67108864 < N) (g : Gx.Grid) : s_NewDraft N g = some (newDraft N g) := by
 obtain ⟨_, q2, q3⟩ := formV_ok hN g
 have h72 := slots_len g
 unfold s_NewDraft newDraft
 rw [q2, bnd_mk]
 by_cases h : formV N g = 0
 ·have e : (formV N g != 0) = false := by simp [h]
  have h36 := (isGrid_ok (q3 h)).small
  rw [if_pos h, e, sel_false, p_s_EmptyFill hN, bnd_mk]
  have := loopN_inv (N := N) (step := s_NewDraft_L1 N g) (fun i => (List.replicate i (⟨0, []⟩ : Gx.Clue), (i : Int))) (n := (slots g).length) (b := List.replicate (slots g).length (⟨0, []⟩ : Gx.Clue)) (fun i hi => by
   unfold s_NewDraft_L1
   simp only
   rw [p_s_SlotsOf hN g (by omega), bnd_mk, sel_pos (by omega), chk_pos (by simp only [List.length_replicate, List.length_singleton]; omega), w64_nat (by omega), List.replicate_succ']) (by
   unfold s_NewDraft_L1
   simp only
   rw [p_s_SlotsOf hN g (by omega), bnd_mk, sel_neg (by omega)]) (by omega)
  rw [show (([] : List Gx.Clue), (0 : Int)) = (List.replicate 0 (⟨0, []⟩ : Gx.Clue), ((0 : Nat) : Int)) from rfl, this, bnd_mk,
   p_s_l27Copy hN (x := ⟨⟨g.mRows, g.mCols, g.mCells⟩, emptyFill g, List.replicate (slots g).length ⟨0, []⟩, 1⟩) ⟨by simp only [List.length_replicate]; omega, fun c hc => by rw [List.eq_of_mem_replicate hc]; simp, show g.mCells.length ≤ 1048576 by omega⟩, bnd_mk]
 ·have e : (formV N g != 0) = true := by simp [h]
  rw [if_neg h, e, sel_true]
theorem emptyFill_len (g : Gx.Grid) : (emptyFill g).length ≤ 36 := by
 unfold emptyFill
 split
 ·rename_i h
  rw [List.length_map]
  exact (isGrid_ok h).small
 ·simp
theorem newDraft_size (N : Nat) (g : Gx.Grid) : (newDraft N g).1.size ≤ g.size + 1000 := by
 have h72 := slots_len g
 have h36 := emptyFill_len g
 unfold newDraft
 split
 ·simp only [Gx.Draft.size, Gx.Clue.size, List.length_replicate, List.map_replicate, List.sum_replicate_nat, List.length_nil, List.map_nil, List.sum_nil]
  omega
 ·simp only [Gx.Draft.size, Gx.Grid.size, List.length_nil, List.map_nil, List.sum_nil]
  omega
def stepDesk (N : Nat) (h : Gx.House) (g : Gx.Grid) : Gx.House × Bool :=
 if (newDraft N g).2 = true then (⟨h.mList, h.mDict, (newDraft N g).1, h.mIssues, h.mUses, h.mCorrections, h.mEntries, h.mNow⟩, true) else (h, false)
theorem p_i_StepDesk {N : Nat} (hN : 67108864 < N) {h : Gx.House} (hx : CpHouse h) (g : Gx.Grid) : i_StepDesk N h g = some (stepDesk N h g) := by
 unfold i_StepDesk stepDesk
 rw [p_i_copyHouse hN hx, bnd_mk, p_i_NewDraft hN, bnd_mk]
 cases hb : (newDraft N g).2 with
 | true => rfl
 | false => rfl
theorem p_s_StepDesk {N : Nat} (hN : 67108864 < N) {h : Gx.House} (hx : CpHouse h) (g : Gx.Grid) : s_StepDesk N h g = some (stepDesk N h g) := by
 unfold s_StepDesk stepDesk
 rw [p_s_l33Copy hN hx, bnd_mk, p_s_NewDraft hN, bnd_mk]
 cases hb : (newDraft N g).2 with
 | true => rfl
 | false => rfl
theorem stepDesk_size (N : Nat) (h : Gx.House) (g : Gx.Grid) : (stepDesk N h g).1.size ≤ h.size + g.size + 1000 := by
 have := newDraft_size N g
 unfold stepDesk
 split
 ·simp only [Gx.House.size]
  omega
 ·show h.size ≤ _
  omega
theorem p_FnExactStepDesk {N : Nat} (hN : 67108864 < N) (x : Gx.House) (hok : x.ok) (g : Gx.Grid) (hok' : g.ok) : l_FnExactStepDesk N x g = some true := by
 unfold l_FnExactStepDesk
 rw [p_szHouse hN x hok (by omega) (by omega), bnd_mk, sel_ite]
 split
 ·rfl
 rename_i h
 obtain ⟨e1, h1⟩ := szF_ok h
 rw [e1, p_szGrid hN g hok' (by omega) (by omega), bnd_mk, sel_ite]
 split
 ·rfl
 rename_i h2
 obtain ⟨_, h3⟩ := szF_ok h2
 have hs : x.size ≤ 1048576 := by omega
 have hs' := stepDesk_size N x g
 obtain ⟨a, b, c, d, e, f', i, m, hm⟩ := mark_house hN x (by omega)
 obtain ⟨a', b', c', d', e', f'', i', m', hm', hh⟩ := marks_house hN (stepDesk N x g).1 (by omega)
 have hq := p_eqHouse hN (stepDesk N x g).1 (stepDesk N x g).1 (by omega)
 simp only [bnd_mk, p_toHouse hN x hs, p_toGrid hN g (by omega), p_i_StepDesk hN (cp_house hs), p_s_StepDesk hN (cp_house hs), p_eqHouse hN x x (by omega), hq, hm, hm', hh, bne_self_eq_false, sel_false, decide_true, Bool.not_true, sel_neg (show ¬ ((m : Int) < 0) by omega), sel_neg (show ¬ ((m' : Int) < 0) by omega)]
end Lw
end Go.Proofs
