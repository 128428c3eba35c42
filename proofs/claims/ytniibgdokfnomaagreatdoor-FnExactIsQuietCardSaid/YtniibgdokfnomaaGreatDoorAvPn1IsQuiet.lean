/- plain laws -/
import Derived.Test.YtniibgdokfnomaaGreatDoorAvPn0IsQuiet
namespace Go.Proofs
open Go Go.Av
set_option maxRecDepth 100000
set_option maxHeartbeats 40000000
set_option linter.unusedVariables false
set_option linter.unusedSimpArgs false
namespace Lw
def nearB (C n : Nat) (M : List Bool) (i : Nat) : Bool :=
 (decide (0 < i % C) && M.getD (i - 1) false) || ((decide (i % C + 1 < C) && M.getD (i + 1) false) || ((decide (C ≤ i) && M.getD (i - C) false) || (decide (i + C < n) && M.getD (i + C) false)))
theorem nearB_of {C n : Nat} {M : List Bool} {i j : Nat} (h : nbr C n i j) (hj : on M j) : nearB C n M i = true := by
 unfold nearB
 unfold on at hj
 rcases h with ⟨h1, h2⟩ | ⟨h1, h2⟩ | ⟨h1, h2⟩ | ⟨h1, h2⟩
 ·rw [show i - 1 = j by omega, hj]; simp [h1]
 ·subst h2; rw [hj]; simp [h1]
 ·rw [show i - C = j by omega, hj]; simp [h1]
 ·subst h2; rw [hj]; simp [h1]
theorem nearB_to {C n : Nat} {M : List Bool} {i : Nat} (hC : 0 < C) (h : nearB C n M i = true) : ∃ j, nbr C n i j ∧ on M j := by
 unfold nearB at h
 simp only [Bool.or_eq_true, Bool.and_eq_true, decide_eq_true_eq] at h
 have hm := Nat.mod_le i C
 rcases h with ⟨h1, h2⟩ | ⟨h1, h2⟩ | ⟨h1, h2⟩ | ⟨h1, h2⟩
 ·exact ⟨i - 1, .inl ⟨h1, by omega⟩, h2⟩
 ·exact ⟨i + 1, .inr (.inl ⟨h1, rfl⟩), h2⟩
 ·exact ⟨i - C, .inr (.inr (.inl ⟨h1, by omega⟩)), h2⟩
 ·exact ⟨i + C, .inr (.inr (.inr ⟨h1, rfl⟩)), h2⟩
theorem tmod_nat (i C : Nat) : Int.tmod (i : Int) (C : Int) = ((i % C : Nat) : Int) := by
 rw [Int.tmod_eq_emod_of_nonneg (by omega)]; omega
theorem tdiv_nat (i C : Nat) : Int.tdiv (i : Int) (C : Int) = ((i / C : Nat) : Int) := by
 rw [Int.tdiv_eq_ediv_of_nonneg (by omega)]; omega
theorem near_part {M : List Bool} {p q : Prop} [Decidable p] [Decidable q] {x : Int} {j : Nat} {E : Option Bool} {b : Bool} (hp : p ↔ q) (hx : q → x = (j : Int) ∧ j < M.length) (hE : E = some b) :
  sel (decide p) (bnd (getI M x) fun y => sel y (some true) E) E = some ((decide q && M.getD j false) || b) := by
 subst hE
 by_cases h : q
 ·rw [decide_eq_true (hp.2 h), decide_eq_true h, sel_true, (hx h).1, getI_on (hx h).2, bnd_mk]
  cases M.getD j false <;> simp
 ·rw [decide_eq_false (fun hh => h (hp.1 hh)), decide_eq_false h, sel_false]; simp
theorem near_last {M : List Bool} {p q : Prop} [Decidable p] [Decidable q] {x : Int} {j : Nat} (hp : p ↔ q) (hx : q → x = (j : Int) ∧ j < M.length) :
  sel (decide p) (bnd (getI M x) fun y => some y) (some false) = some (decide q && M.getD j false) := by
 by_cases h : q
 ·rw [decide_eq_true (hp.2 h), decide_eq_true h, sel_true, (hx h).1, getI_on (hx h).2, bnd_mk]; simp
 ·rw [decide_eq_false (fun hh => h (hp.1 hh)), decide_eq_false h, sel_false]; simp
/-- one cell of a pass -/
theorem reach_step {N : Nat} {g : Gx.Grid} {R C : Nat} (D : Dims g R C) {M : List Bool} (hl : M.length = R * C) {i : Nat} (hi : i < R * C) (again : Bool) :
  s_l10Reach_L2 N g (M, again, (i : Int)) = some (.inl (if (!M.getD i false && (dot g i && nearB C (R * C) M i)) = true then (M.set i true, true, ((i + 1 : Nat) : Int)) else (M, again, ((i + 1 : Nat) : Int)))) := by
 have hC1 := D.c2.1; have hC2 := D.c2.2
 have hrc := rc36 D.r2.2 hC2
 have hlen := D.len
 unfold s_l10Reach_L2
 simp only
 rw [sel_pos (by omega), getI_on (by omega), bnd_mk, w64_nat (by omega)]
 cases hm : M.getD i false with
 | true => rfl
 | false =>
  have hb : ((byteI g.mCells (i : Int)) != 46) = !dot g i := by rw [bne, dot_byte (by omega)]
  rw [sel_false, chk_pos (by omega), hb, sel_not]
  cases hw : dot g i with
  | false => rfl
  | true =>
   rw [sel_true, chk_pos (by rw [D.c]; omega), D.c, tmod_nat]
   have b4 := near_last (M := M) (p := w64 ((i : Int) + (C : Int)) < (M.length : Int)) (q := i + C < R * C) (x := w64 ((i : Int) + (C : Int))) (j := i + C) (by rw [w64_in (by omega) (by omega)]; omega) (fun h => ⟨by rw [w64_in (by omega) (by omega)]; omega, by omega⟩)
   have b3 := near_part (M := M) (p := (i : Int) ≥ (C : Int)) (q := C ≤ i) (x := w64 ((i : Int) - (C : Int))) (j := i - C) (by omega) (fun h => ⟨by rw [w64_in (by omega) (by omega)]; omega, by omega⟩) b4
   have hm1 : i % C < C := Nat.mod_lt _ (by omega)
   have hnx : i % C + 1 < C → i + 1 < R * C := by
    intro h
    rcases small_cases hC1 hC2 with rfl | rfl | rfl | rfl | rfl <;> omega
   have b2 := near_part (M := M) (p := w64 (((i % C : Nat) : Int) + 1) < (C : Int)) (q := i % C + 1 < C) (x := w64 ((i : Int) + 1)) (j := i + 1) (by rw [w64_in (by omega) (by omega)]; omega) (fun h => ⟨by rw [w64_in (by omega) (by omega)]; omega, by have := hnx h; omega⟩) b3
   have hmle := Nat.mod_le i C
   have b1 := near_part (M := M) (p := ((i % C : Nat) : Int) > 0) (q := 0 < i % C) (x := w64 ((i : Int) - 1)) (j := i - 1) (by omega) (fun h => ⟨by rw [w64_in (by omega) (by omega)]; omega, by omega⟩) b2
   have en : nearB C (R * C) M i = (decide (0 < i % C) && M.getD (i - 1) false || (decide (i % C + 1 < C) && M.getD (i + 1) false || (decide (C ≤ i) && M.getD (i - C) false || decide (i + C < R * C) && M.getD (i + C) false))) := rfl
   rw [w64_nat (i := i) (by omega)] at b2
   rw [← en, w64_nat (i := i) (by omega)] at b1
   have b1' := b1
   refine Eq.trans (congrArg (fun o => bnd o _) b1') ?_
   rw [bnd_mk]
   cases nearB C (R * C) M i with
   | false => rfl
   | true =>
    rw [sel_true, bnd_mk, show Int.toNat (i : Int) = i by omega]; rfl
structure Pass (C n : Nat) (w : Nat → Bool) (a i : Nat) (M : List Bool) (again : Bool) (M' : List Bool) (again' : Bool) : Prop where
 len : M'.length = n
 mono : ∀ d, on M d → on M' d
 conn : ∀ d, on M' d → d < n ∧ Conn C n w a d
 stop : again' = false → M' = M ∧ again = false ∧ ∀ j, i ≤ j → j < n → ¬ on M j → w j = true → nearB C n M j = false
 go : again' = true → again = true ∨ offs M' < offs M
theorem pass_ok {N : Nat} {g : Gx.Grid} {R C : Nat} (D : Dims g R C) {a : Nat} : ∀ (m i : Nat) (M : List Bool) (again : Bool) (F : Nat), i + m = R * C → m < F → M.length = R * C → (∀ d, on M d → d < R * C ∧ Conn C (R * C) (dot g) a d) →
  ∃ M' again', loopN (s_l10Reach_L2 N g) F (M, again, (i : Int)) = some (.inl (M', again')) ∧ Pass C (R * C) (dot g) a i M again M' again'
 | 0, i, M, again, F, hi, hF, hl, hc => by
  obtain ⟨F, rfl⟩ : ∃ k, F = k + 1 := ⟨F - 1, by omega⟩
  have e : s_l10Reach_L2 N g (M, again, (i : Int)) = some (.inr (.inl (M, again))) := by unfold s_l10Reach_L2; rw [sel_neg (by simp only; omega)]
  refine ⟨M, again, by simp only [loopN, e], hl, fun _ h => h, hc, fun h => ⟨rfl, h, fun j h1 h2 => by omega⟩, fun h => .inl h⟩
 | m + 1, i, M, again, F, hi, hF, hl, hc => by
  obtain ⟨F, rfl⟩ : ∃ k, F = k + 1 := ⟨F - 1, by omega⟩
  have hC1 := D.c2.1; have hC2 := D.c2.2
  have hst := reach_step (N := N) D hl (i := i) (by omega) again
  simp only [loopN, hst]
  by_cases h : (!M.getD i false && (dot g i && nearB C (R * C) M i)) = true
  ·rw [if_pos h]
   simp only [Bool.and_eq_true, Bool.not_eq_true'] at h
   obtain ⟨h1, h2, h3⟩ := h
   obtain ⟨j, hj1, hj2⟩ := nearB_to (by omega) h3
   have hcj := hc j hj2
   have hii := nbr_symm hC1 hC2 (i := i) (by omega) hj1
   have hc' : ∀ d, on (M.set i true) d → d < R * C ∧ Conn C (R * C) (dot g) a d := fun d hd => by
    rcases (on_set (by omega)).1 hd with rfl | hd
    ·exact ⟨by omega, .step hcj.2 hii.1 h2⟩
    ·exact hc d hd
   obtain ⟨M', again', e, V⟩ := pass_ok (N := N) D m (i + 1) (M.set i true) true F (by omega) (by omega) (by simpa using hl) hc'
   have hmi : M[i]? = some false := by
    rw [List.getD_eq_getElem?_getD, List.getElem?_eq_getElem (by omega)] at h1
    rw [List.getElem?_eq_getElem (by omega)]; simpa using h1
   have o1 := offs_set hmi
   have o2 := offs_mono (by rw [V.len]; simpa using hl.symm) V.mono
   exact ⟨M', again', e, V.len, fun d hd => V.mono d ((on_set (by omega)).2 (.inr hd)), V.conn, fun hs => absurd (V.stop hs).2.1 (by simp), fun _ => .inr (by omega)⟩
  ·rw [if_neg h]
   obtain ⟨M', again', e, V⟩ := pass_ok (N := N) D m (i + 1) M again F (by omega) (by omega) hl hc
   refine ⟨M', again', e, V.len, V.mono, V.conn, fun hs => ?_, V.go⟩
   obtain ⟨q1, q2, q3⟩ := V.stop hs
   refine ⟨q1, q2, fun j h1 h2 hn hw => ?_⟩
   by_cases hij : j = i
   ·subst hij
    have hm : M.getD j false = false := by unfold on at hn; simpa using hn
    rw [hm, hw] at h
    simpa using h
   ·exact q3 j (by omega) h2 hn hw
structure Reach (C n : Nat) (w : Nat → Bool) (a : Nat) (M S : List Bool) : Prop where
 len : S.length = n
 mono : ∀ d, on M d → on S d
 conn : ∀ d, on S d → d < n ∧ Conn C n w a d
 cl : ∀ j, j < n → ¬ on S j → w j = true → nearB C n S j = false
theorem reach_loop {N : Nat} {g : Gx.Grid} {R C : Nat} (D : Dims g R C) (hN : 67108864 < N) {a : Nat} : ∀ (k : Nat) (M : List Bool), offs M < k → M.length = R * C → (∀ d, on M d → d < R * C ∧ Conn C (R * C) (dot g) a d) →
  ∃ S, loopN (s_l10Reach_L1 N g) (k + 1) (M, true) = some S ∧ Reach C (R * C) (dot g) a M S
 | 0, M, h, _, _ => by omega
 | k + 1, M, h, hl, hc => by
  have hrc := rc36 D.r2.2 D.c2.2
  obtain ⟨M', again', e, V⟩ := pass_ok (N := N) D (R * C) 0 M false N (by omega) (by omega) hl hc
  have e1 : s_l10Reach_L1 N g (M, true) = some (.inl (M', again')) := by unfold s_l10Reach_L1; exact e
  cases again' with
  | true =>
   have ho := (V.go rfl).resolve_left (by simp)
   obtain ⟨S, e2, W⟩ := reach_loop (N := N) D hN k M' (by omega) V.len V.conn
   refine ⟨S, ?_, W.len, fun d hd => W.mono d (V.mono d hd), W.conn, W.cl⟩
   simp only [loopN, e1] at e2 ⊢
   exact e2
  | false =>
   obtain ⟨q1, _, q3⟩ := V.stop rfl
   refine ⟨M', ?_, V.len, V.mono, V.conn, fun j hj hn hw => ?_⟩
   ·have e3 : s_l10Reach_L1 N g (M', false) = some (.inr M') := rfl
    simp only [loopN, e1, e3]
   ·rw [q1] at hn ⊢; exact q3 j (by omega) hj hn hw
theorem p_s_l10Reach {N : Nat} (hN : 67108864 < N) {g : Gx.Grid} {R C : Nat} (D : Dims g R C) {a : Nat} (ha : a < R * C) : ∃ S, s_l10Reach N g (List.replicate (R * C) false) (a : Int) = some S ∧ S.length = R * C ∧ on S a ∧ (∀ d, on S d → d < R * C ∧ Conn C (R * C) (dot g) a d) ∧
  ∀ d e, on S d → nbr C (R * C) d e → dot g e = true → on S e := by
 have hrc := rc36 D.r2.2 D.c2.2
 obtain ⟨K, rfl⟩ : ∃ k, N = k + 1 := ⟨N - 1, by omega⟩
 have hl : ((List.replicate (R * C) false).set a true).length = R * C := by simp
 have hoff := offs_le ((List.replicate (R * C) false).set a true)
 have h0 : ∀ d, on ((List.replicate (R * C) false).set a true) d → d = a := fun d hd => by
  rcases (on_set (by simpa using ha)).1 hd with rfl | hd
  ·rfl
  ·unfold on at hd
   rw [List.getD_eq_getElem?_getD, List.getElem?_replicate] at hd
   split at hd <;> simp at hd
 obtain ⟨S, e, V⟩ := reach_loop (N := K + 1) D hN (a := a) K _ (by omega) hl (fun d hd => by have := h0 d hd; subst this; exact ⟨ha, .refl⟩)
 refine ⟨S, ?_, V.len, V.mono a ((on_set (by simpa using ha)).2 (.inl rfl)), V.conn, fun d f hd hn hw => ?_⟩
 ·unfold s_l10Reach
  rw [getI_on (by simpa using ha), bnd_mk, show Int.toNat (a : Int) = a by omega, e]
  rfl
 ·have hd' := (V.conn d hd).1
  have hs := nbr_symm D.c2.1 D.c2.2 hd' hn
  refine Classical.byContradiction fun hc => ?_
  have := V.cl f hs.2 hc hw
  rw [nearB_of hs.1 hd] at this
  cases this
def orTo (M S : List Bool) (k : Nat) : List Bool := (List.range M.length).map fun j => if j < k then M.getD j false || S.getD j false else M.getD j false
theorem orTo_get (M S : List Bool) (k j : Nat) : (orTo M S k)[j]? = if j < M.length then some (if j < k then M.getD j false || S.getD j false else M.getD j false) else none := by
 unfold orTo
 rw [List.getElem?_map]
 by_cases h : j < M.length
 ·rw [List.getElem?_range h, if_pos h]; rfl
 ·rw [List.getElem?_eq_none (by simpa using h), if_neg h]; rfl
theorem orTo_len (M S : List Bool) (k : Nat) : (orTo M S k).length = M.length := by simp [orTo]
theorem orTo_zero (M S : List Bool) : orTo M S 0 = M := by
 apply List.ext_getElem?
 intro j
 rw [orTo_get]
 by_cases h : j < M.length
 ·rw [if_pos h, if_neg (by omega), List.getD_eq_getElem?_getD, List.getElem?_eq_getElem h]; rfl
 ·rw [if_neg h, List.getElem?_eq_none (by omega)]
theorem orTo_set {M S : List Bool} {k : Nat} (hk : k < M.length) {b : Bool} (hb : b = (M.getD k false || S.getD k false)) : (orTo M S k).set k b = orTo M S (k + 1) := by
 subst hb
 apply List.ext_getElem?
 intro j
 rw [List.getElem?_set, orTo_get, orTo_get, orTo_len]
 by_cases h : k = j
 ·subst h; simp [hk]
 ·rw [if_neg h]
  by_cases h2 : j < M.length
  ·rw [if_pos h2, if_pos h2]
   by_cases h3 : j < k
   ·rw [if_pos h3, if_pos (by omega)]
   ·rw [if_neg h3, if_neg (by omega)]
  ·rw [if_neg h2, if_neg h2]
theorem orTo_on {M S : List Bool} (hl : S.length = M.length) (d : Nat) : on (orTo M S M.length) d ↔ on M d ∨ on S d := by
 unfold on
 rw [List.getD_eq_getElem?_getD, orTo_get]
 by_cases h : d < M.length
 ·rw [if_pos h, if_pos h]; simp
 ·rw [if_neg h, List.getD_eq_getElem?_getD, List.getElem?_eq_none (by omega), List.getD_eq_getElem?_getD, List.getElem?_eq_none (by omega)]; simp
theorem p_s_L4 {N : Nat} {M S : List Bool} (hl : S.length = M.length) (hM : M.length < N) (hM2 : M.length ≤ 1048576) (p2 : Int × (List Bool) × Int) : loopN (s_PartsOf_L4 N S p2) N (M, 0) = some (w64 (p2.1 + 1), orTo M S M.length) := by
 have := loopN_inv (N := N) (step := s_PartsOf_L4 N S p2) (fun k => (orTo M S k, (k : Int))) (n := M.length) (b := (w64 (p2.1 + 1), orTo M S M.length)) (fun k hk => by
  have hol := orTo_len M S k
  have hg : (orTo M S k).getD k false = M.getD k false := by
   rw [List.getD_eq_getElem?_getD, orTo_get, if_pos hk, if_neg (by omega)]; rfl
  unfold s_PartsOf_L4
  simp only
  rw [sel_pos (by omega), getI_on (by omega), bnd_mk, hg, bnd_mk, getI_on (by omega), bnd_mk, bnd_mk, w64_nat (by omega), show Int.toNat (k : Int) = k by omega]
  cases hm : M.getD k false with
  | true => rw [sel_true, orTo_set hk (by rw [hm]; rfl)]
  | false => rw [sel_false, orTo_set hk (by rw [hm]; rfl)]) (by
   unfold s_PartsOf_L4
   simp only
   rw [sel_neg (by rw [orTo_len]; omega)]) hM
 rw [orTo_zero] at this
 exact this
theorem p_s_L3 {N : Nat} (p2 : Int × (List Bool) × Int) (hM : p2.2.1.length < N) (hM2 : p2.2.1.length ≤ 1048576) : loopN (s_PartsOf_L3 N p2) N ([], 0) = some (List.replicate p2.2.1.length false) := by
 rw [loop_map (N := N) (l := p2.2.1) (fun _ => false) (fi := id) (fun i x a hx hi ha => by
  unfold s_PartsOf_L3
  simp only
  rw [sel_pos (by omega), chk_pos (by simp; omega)]) (fun a => by unfold s_PartsOf_L3; rw [sel_neg (by simp)]; rfl) (by omega) (by omega)]
 simp [List.map_const']
theorem p_s_L1 {N : Nat} (g : Gx.Grid) (hM : g.mCells.length < N) (hM2 : g.mCells.length ≤ 1048576) : loopN (s_PartsOf_L1 N g) N ([], 0) = some (List.replicate g.mCells.length false) := by
 rw [loop_map (N := N) (l := g.mCells) (fun _ => false) (fi := id) (fun i x a hx hi ha => by
  unfold s_PartsOf_L1
  simp only
  rw [sel_pos (by omega), chk_pos (by simp; omega)]) (fun a => by unfold s_PartsOf_L1; rw [sel_neg (by simp)]; rfl) (by omega) (by omega)]
 simp [List.map_const']
theorem white_here {g : Gx.Grid} {R C : Nat} (D : Dims g R C) {M : List Bool} (hl : M.length = R * C) {i : Nat} (hi : i < R * C) :
  (chk (0 ≤ (i : Int) ∧ (i : Int) < (g.mCells.length : Int)) <| sel ((byteI g.mCells (i : Int)) == 46) (bnd (getI M (i : Int)) fun x2 => some !x2) (some false)) = some (dot g i && !M.getD i false) := by
 have := D.len
 rw [chk_pos (by omega), dot_byte (by omega), getI_on (by omega), bnd_mk]
 cases dot g i <;> rfl
theorem parts_loop {N : Nat} (hN : 67108864 < N) {g : Gx.Grid} {R C : Nat} (D : Dims g R C) (hg : isGrid g = true) : ∀ (m i : Nat) (M : List Bool) (cnt : Int) (F : Nat), i + m = R * C → m < F → M.length = R * C → (∀ d e, on M d → nbr C (R * C) d e → dot g e = true → on M e) →
  ∃ v, loopN (i_PartsOf_L1 N g) F (M, cnt, (i : Int)) = some v ∧ loopN (s_PartsOf_L2 N g) F (cnt, M, (i : Int)) = some v
 | 0, i, M, cnt, F, hi, hF, hl, hc => by
  obtain ⟨F, rfl⟩ : ∃ k, F = k + 1 := ⟨F - 1, by omega⟩
  have hlen := D.len
  have e1 : i_PartsOf_L1 N g (M, cnt, (i : Int)) = some (.inr cnt) := by unfold i_PartsOf_L1; rw [sel_neg (by simp only; omega)]
  have e2 : s_PartsOf_L2 N g (cnt, M, (i : Int)) = some (.inr cnt) := by unfold s_PartsOf_L2; rw [sel_neg (by simp only; omega)]
  exact ⟨cnt, by simp only [loopN, e1], by simp only [loopN, e2]⟩
 | m + 1, i, M, cnt, F, hi, hF, hl, hc => by
  obtain ⟨F, rfl⟩ : ∃ k, F = k + 1 := ⟨F - 1, by omega⟩
  have hC1 := D.c2.1; have hC2 := D.c2.2
  have hrc := rc36 D.r2.2 hC2
  have hlen := D.len
  have hin : i < R * C := by omega
  have hwh := white_here D hl hin
  cases hb : dot g i && !M.getD i false with
  | false =>
   have e1 : i_PartsOf_L1 N g (M, cnt, (i : Int)) = some (.inl (M, cnt, ((i + 1 : Nat) : Int))) := by
    unfold i_PartsOf_L1
    simp only
    rw [sel_pos (by omega)]
    refine Eq.trans (congrArg (fun o => bnd o _) hwh) ?_
    rw [bnd_mk, hb, sel_false, w64_nat (by omega)]
   have e2 : s_PartsOf_L2 N g (cnt, M, (i : Int)) = some (.inl (cnt, M, ((i + 1 : Nat) : Int))) := by
    unfold s_PartsOf_L2
    simp only
    rw [sel_pos (by omega), p_s_IsGrid hN, hg, bnd_mk, sel_true]
    refine Eq.trans (congrArg (fun o => bnd (bnd o _) _) hwh) ?_
    rw [bnd_mk, hb, sel_false, bnd_mk, w64_nat (by omega)]
   obtain ⟨v, q1, q2⟩ := parts_loop hN D hg m (i + 1) M cnt F (by omega) (by omega) hl hc
   exact ⟨v, by simp only [loopN, e1]; exact q1, by simp only [loopN, e2]; exact q2⟩
  | true =>
   have hb' := hb
   simp only [Bool.and_eq_true, Bool.not_eq_true'] at hb'
   obtain ⟨hw, hm⟩ := hb'
   have hdm := Nat.div_add_mod i C
   have hml : i % C < C := Nat.mod_lt _ (by omega)
   have hdl : i / C < R := (Nat.div_lt_iff_lt_mul (by omega)).2 (by omega)
   have hR2 := D.r2.2
   have hq0 : 0 ≤ ((i / C : Nat) : Int) := Int.natCast_nonneg _
   have hr0 : 0 ≤ ((i % C : Nat) : Int) := Int.natCast_nonneg _
   have hT : tgt R C ((i / C : Nat) : Int) ((i % C : Nat) : Int) i := ⟨by omega, by omega, by omega, by omega, by
    rw [← Int.natCast_mul, ← Int.natCast_add, Nat.mul_comm]
    exact congrArg Int.ofNat hdm.symm⟩
   have hol := offs_le M
   obtain ⟨M', e, V⟩ := visit_ok (N := N) D N M ((i / C : Nat) : Int) ((i % C : Nat) : Int) (by omega) (by omega) (by omega) (by omega) hl (by omega)
   obtain ⟨S, eS, hSl, hSa, hSc, hScl⟩ := p_s_l10Reach hN D hin
   have hsub : ∀ d, Conn C (R * C) (dot g) i d → on S d := fun d h => by
    induction h with
    | refl => exact hSa
    | step _ hn hw' ih => exact hScl _ _ ih hn hw'
   have hcl' : ∀ d e, on M' d → nbr C (R * C) d e → dot g e = true → on M' e := fun d e hd hn hwe => by
    by_cases h : on M d
    ·exact V.mono e (hc d e h hn hwe)
    ·exact V.cl d hd h e hn hwe
   have hin' : on M' i := V.tg i hT hw
   have hM'sub : ∀ d, Conn C (R * C) (dot g) i d → on M' d := fun d h => by
    induction h with
    | refl => exact hin'
    | step _ hn hw' ih => exact hcl' _ _ ih hn hw'
   have heq : orTo M S M.length = M' := by
    refine on_ext (by rw [orTo_len, V.len, hl]) fun d => ?_
    rw [orTo_on (by rw [hSl, hl])]
    constructor
    ·rintro (h | h)
     ·exact V.mono d h
     ·exact hM'sub d (hSc d h).2
    ·intro h
     by_cases h2 : on M d
     ·exact .inl h2
     ·obtain ⟨_, _, t, ht, _, hcn⟩ := V.new d h h2
      rw [tgt_one hT ht] at hcn
      exact .inr (hsub d hcn)
   have e1 : i_PartsOf_L1 N g (M, cnt, (i : Int)) = some (.inl (M', w64 (cnt + 1), ((i + 1 : Nat) : Int))) := by
    unfold i_PartsOf_L1
    simp only
    rw [sel_pos (by omega)]
    refine Eq.trans (congrArg (fun o => bnd o _) hwh) ?_
    rw [bnd_mk, hb, sel_true, chk_pos (by rw [D.c]; omega), chk_pos (by rw [D.c]; omega), D.c, tmod_nat, tdiv_nat, w64_in (n := ((i / C : Nat) : Int)) (by omega) (by omega)]
    unfold i_PartsOf_1
    rw [e, bnd_mk, w64_nat (by omega)]
   have e2 : s_PartsOf_L2 N g (cnt, M, (i : Int)) = some (.inl (w64 (cnt + 1), M', ((i + 1 : Nat) : Int))) := by
    unfold s_PartsOf_L2
    simp only
    rw [sel_pos (by omega), p_s_IsGrid hN, hg, bnd_mk, sel_true]
    refine Eq.trans (congrArg (fun o => bnd (bnd o _) _) hwh) ?_
    rw [bnd_mk, hb, sel_true, p_s_L3 (cnt, M, (i : Int)) (by simp only; omega) (by simp only; omega), bnd_mk]
    simp only
    rw [hl, eS, bnd_mk, p_s_L4 (by rw [hSl, hl]) (by omega) (by omega), bnd_mk, heq, w64_nat (by omega)]
   obtain ⟨v, q1, q2⟩ := parts_loop hN D hg m (i + 1) M' (w64 (cnt + 1)) F (by omega) (by omega) V.len hcl'
   exact ⟨v, by simp only [loopN, e1]; exact q1, by simp only [loopN, e2]; exact q2⟩
theorem p_Parts {N : Nat} (hN : 67108864 < N) {g : Gx.Grid} (hg : isGrid g = true) : ∃ v, i_PartsOf N g = some v ∧ s_PartsOf N g = some v := by
 obtain ⟨R, C, D⟩ := (isGrid_ok hg).dims
 have hrc := rc36 D.r2.2 D.c2.2
 have hlen := D.len
 have none0 : ∀ d, ¬ on (List.replicate (R * C) false) d := fun d hd => by
  unfold on at hd
  rw [List.getD_eq_getElem?_getD, List.getElem?_replicate] at hd
  split at hd <;> simp at hd
 obtain ⟨v, q1, q2⟩ := parts_loop hN D hg (R * C) 0 (List.replicate (R * C) false) 0 N (by omega) (by omega) (by simp) (fun d e h => absurd h (none0 d))
 refine ⟨v, ?_, ?_⟩
 ·unfold i_PartsOf
  rw [p_i_IsGrid hN, hg, bnd_mk, Bool.not_true, sel_false, chk_pos (by omega), show Int.toNat (g.mCells.length : Int) = R * C by omega]
  rw [show ((0 : Int)) = ((0 : Nat) : Int) from rfl] at *
  rw [q1]; rfl
 ·unfold s_PartsOf
  rw [p_s_L1 g (by omega) (by omega), bnd_mk, hlen]
  rw [show ((0 : Int)) = ((0 : Nat) : Int) from rfl] at *
  rw [q2]; rfl
def revTo (s : List UInt8) (k : Nat) : List UInt8 := (List.range s.length).map fun p => if p < k ∨ s.length ≤ p + k then s.getD (s.length - 1 - p) 0 else s.getD p 0
theorem revTo_get (s : List UInt8) (k p : Nat) : (revTo s k)[p]? = if p < s.length then some (if p < k ∨ s.length ≤ p + k then s.getD (s.length - 1 - p) 0 else s.getD p 0) else none := by
 unfold revTo
 rw [List.getElem?_map]
 by_cases h : p < s.length
 ·rw [List.getElem?_range h, if_pos h]; rfl
 ·rw [List.getElem?_eq_none (by simpa using h), if_neg h]; rfl
theorem revTo_len (s : List UInt8) (k : Nat) : (revTo s k).length = s.length := by simp [revTo]
theorem getD_some {s : List UInt8} {p : Nat} (h : p < s.length) : s[p]? = some (s.getD p 0) := by rw [List.getD_eq_getElem?_getD, List.getElem?_eq_getElem h]; rfl
theorem revTo_zero (s : List UInt8) : revTo s 0 = s := by
 apply List.ext_getElem?
 intro p
 rw [revTo_get]
 by_cases h : p < s.length
 ·rw [if_pos h, if_neg (by omega), getD_some h]
 ·rw [if_neg h, List.getElem?_eq_none (by omega)]
theorem revTo_all (s : List UInt8) : revTo s (s.length / 2) = s.reverse := by
 apply List.ext_getElem?
 intro p
 rw [revTo_get]
 by_cases h : p < s.length
 ·rw [if_pos h, List.getElem?_reverse h, getD_some (by omega)]
  split
  ·rfl
  ·rw [show s.length - 1 - p = p by omega]
 ·rw [if_neg h, List.getElem?_eq_none (by simpa using h)]
theorem p_g_Reverse {N : Nat} (hN : 67108864 < N) (s : List UInt8) (hs : s.length ≤ 1048576) : g_slices_Reverse_Sbyte_byte N s = some s.reverse := by
 unfold g_slices_Reverse_Sbyte_byte
 have := loopN_inv (N := N) (step := g_slices_Reverse_Sbyte_byte_L1 N) (fun k => (revTo s k, (k : Int), (s.length : Int) - 1 - (k : Int))) (n := s.length / 2) (b := s.reverse) (fun k hk => by
  have hl := revTo_len s k
  have gI : ∀ {L : List UInt8} {z : Int} {p : Nat}, z = (p : Int) → p < L.length → getI L z = some (L.getD p 0) := fun e h => by subst e; exact getI_nat (getD_some h)
  have g1 : (revTo s k).getD (s.length - 1 - k) 0 = s.getD (s.length - 1 - k) 0 := by
   rw [List.getD_eq_getElem?_getD, revTo_get, if_pos (by omega), if_neg (by omega)]; rfl
  have g2 : (revTo s k).getD k 0 = s.getD k 0 := by
   rw [List.getD_eq_getElem?_getD, revTo_get, if_pos (by omega), if_neg (by omega)]; rfl
  unfold g_slices_Reverse_Sbyte_byte_L1
  simp only
  rw [sel_pos (by omega), gI (p := s.length - 1 - k) (by omega) (by omega), bnd_mk, gI (p := k) (by omega) (by omega), bnd_mk, bnd_mk, gI (p := s.length - 1 - k) (by omega) (by simp [revTo_len]; omega), bnd_mk,
   w64_nat (by omega), w64_in (by omega) (by omega), g1, g2, show Int.toNat (k : Int) = k by omega, show Int.toNat ((s.length : Int) - 1 - (k : Int)) = s.length - 1 - k by omega]
  have el : ((revTo s k).set k (s.getD (s.length - 1 - k) 0)).set (s.length - 1 - k) (s.getD k 0) = revTo s (k + 1) := by
   apply List.ext_getElem?
   intro p
   rw [List.getElem?_set, List.getElem?_set, List.length_set, revTo_get, revTo_get, revTo_len]
   by_cases h1 : s.length - 1 - k = p
   ·subst h1
    rw [if_pos rfl, if_pos (by omega), if_pos (by omega), if_pos (by omega), show s.length - 1 - (s.length - 1 - k) = k by omega]
   ·rw [if_neg h1]
    by_cases h2 : k = p
    ·subst h2
     rw [if_pos rfl, if_pos (by omega), if_pos (by omega), if_pos (by omega)]
    ·rw [if_neg h2]
     by_cases h3 : p < s.length
     ·rw [if_pos h3, if_pos h3]
      by_cases h4 : p < k ∨ s.length ≤ p + k
      ·rw [if_pos h4, if_pos (by omega)]
      ·rw [if_neg h4, if_neg (by omega)]
     ·rw [if_neg h3, if_neg h3]
  rw [el, show (s.length : Int) - 1 - (k : Int) - 1 = (s.length : Int) - 1 - ((k + 1 : Nat) : Int) by omega]) (by
   unfold g_slices_Reverse_Sbyte_byte_L1
   simp only
   rw [sel_neg (by omega), revTo_all]) (by omega)
 rw [revTo_zero] at this
 rw [w64_in (by omega) (by omega)]
 simpa using this
theorem p_i_Backwards {N : Nat} (hN : 67108864 < N) (s : List UInt8) (hs : s.length ≤ 100) : i_Backwards N s = some s.reverse := by
 unfold i_Backwards
 rw [sel_neg (by omega), chk_pos (by omega), p_g_Reverse hN s (by omega), bnd_mk]
theorem p_s_Backwards {N : Nat} (hN : 67108864 < N) (s : List UInt8) (hs : s.length ≤ 100) : s_Backwards N s = some s.reverse := by
 unfold s_Backwards
 have := loop_fold (N := N) (step := s_Backwards_L1 N s) (fun i a => (a, (i : Int))) s (fun a x => x :: a) id (fun i a => a.length = i) (a := []) rfl
  (fun a _ => by unfold s_Backwards_L1; rw [sel_neg (by simp)]; rfl)
  (fun i a x ha hx hi => ⟨by
   unfold s_Backwards_L1
   simp only
   rw [sel_pos (by omega), sel_pos (by omega), w64_nat (by omega), chk_pos (by omega), sub_one hi, chk_pos (by simp; omega)]
   have e : s.getD i 0 = x := by rw [List.getD_eq_getElem?_getD, hx]; rfl
   rw [e]; rfl, by simp [ha]⟩) (by omega)
 rw [show (([] : List UInt8), (0 : Int)) = (([] : List UInt8), ((0 : Nat) : Int)) from rfl, this]
 have : ∀ (l a : List UInt8), l.foldl (fun a x => x :: a) a = l.reverse ++ a := by
  intro l
  induction l with
  | nil => intro a; rfl
  | cons x l ih => intro a; simp [ih]
 simp [this]
def isSym (g : Gx.Grid) : Bool := g.mCells == g.mCells.reverse
theorem p_i_IsSymmetric {N : Nat} (hN : 67108864 < N) {g : Gx.Grid} (hg : isGrid g = true) : i_IsSymmetric N g = some (isSym g) := by
 have hl := (isGrid_ok hg).small
 unfold i_IsSymmetric i_TurnGrid isSym
 rw [p_i_IsGrid hN, hg, bnd_mk, sel_true, bnd_mk, Bool.not_true, sel_false, p_i_Backwards hN _ (by omega), bnd_mk, bnd_mk]
 simp
theorem p_s_IsSymmetric {N : Nat} (hN : 67108864 < N) {g : Gx.Grid} (hg : isGrid g = true) : s_IsSymmetric N g = some (isSym g) := by
 have hl := (isGrid_ok hg).small
 unfold s_IsSymmetric s_TurnGrid isSym
 rw [p_s_IsGrid hN, hg, bnd_mk, sel_true, bnd_mk, Bool.not_true, sel_false, p_s_Backwards hN _ (by omega), bnd_mk, bnd_mk]
 have : (g.mCells.reverse == g.mCells) = (g.mCells == g.mCells.reverse) := by
  rw [Bool.eq_iff_iff]; simp only [beq_iff_eq]; exact eq_comm
 simp [this]
/-- the numbers of those for which something holds -/
def atL {α : Type} (p : α → Bool) : List α → Nat → List Int → List Int
 | [], _, a => a
 | x :: r, i, a => atL p r (i + 1) (if p x = true then a ++ [(i : Int)] else a)
theorem loop_idx {α γ : Type} {l : List α} {step : List Int × Int → Option (Sum (List Int × Int) γ)} (p : α → Bool) {fi : List Int → γ} {N : Nat}
  (hs : ∀ i x a, l[i]? = some x → i < l.length → a.length ≤ i → step (a, (i : Int)) = some (.inl (if p x = true then a ++ [(i : Int)] else a, w64 ((i : Int) + 1)))) (he : ∀ a, step (a, (l.length : Int)) = some (.inr (fi a)))
  (hl : l.length ≤ 4611686018427387904) (hN : l.length < N) : loopN step N ([], 0) = some (fi (atL p l 0 [])) := by
 have := loopN_list (N := N) (step := step) (fun i (a : Nat × List Int) => (a.2, (i : Int))) l (fun r a => fi (atL p r a.1 a.2)) (fun i a => a.1 = i ∧ a.2.length ≤ i) (a := (0, [])) ⟨rfl, Nat.le_refl _⟩
  (fun a _ => by rw [he]; rfl)
  (fun i a x r ha hx hr hi => by
   obtain ⟨h1, h2⟩ := ha
   left
   refine ⟨(i + 1, if p x = true then a.2 ++ [(i : Int)] else a.2), by rw [hs i x a.2 hx hi h2, w64_nat (by omega)], ⟨rfl, ?_⟩, ?_⟩
   ·split <;> simp <;> omega
   ·simp only [atL, h1]) hN
 exact this
theorem atL_map {α β : Type} (f : α → β) (p : β → Bool) : ∀ (l : List α) (i : Nat) (a : List Int), atL p (l.map f) i a = atL (fun x => p (f x)) l i a
 | [], _, _ => rfl
 | x :: r, i, a => by simp only [List.map_cons, atL, atL_map f p r]
theorem atL_len {α : Type} (p : α → Bool) : ∀ (l : List α) (i : Nat) (a : List Int), a.length ≤ (atL p l i a).length ∧ ((atL p l i a).length = a.length ↔ ∀ x ∈ l, p x = false)
 | [], i, a => by simp [atL]
 | x :: r, i, a => by
  simp only [atL]
  obtain ⟨h1, h2⟩ := atL_len p r (i + 1) (if p x = true then a ++ [(i : Int)] else a)
  cases hp : p x with
  | true =>
   rw [hp] at h1 h2
   simp only [if_true, List.length_append, List.length_singleton] at h1 h2 ⊢
   refine ⟨by omega, ⟨fun h => by omega, fun h => ?_⟩⟩
   have := h x (by simp)
   rw [hp] at this; cases this
  | false =>
   rw [hp] at h1 h2
   simp only [Bool.false_eq_true, if_false] at h1 h2 ⊢
   refine ⟨h1, h2.trans ⟨fun h y hy => ?_, fun h y hy => h y (List.mem_cons_of_mem _ hy)⟩⟩
   rcases List.mem_cons.1 hy with rfl | hy
   ·exact hp
   ·exact h y hy
theorem has_first (l : List Int) (c : Int) : ∀ (i : Nat), (firstV (fun (i : Nat) (x : Int) => if (x == c) = true then some (i : Int) else none) l i (-1) ≥ 0) = (c ∈ l) := by
 induction l with
 | nil => intro i; simp [firstV]
 | cons x r ih =>
  intro i
  simp only [firstV]
  by_cases h : x = c
  ·subst h; simp
  ·have h' : ¬ c = x := fun e => h e.symm
   simp only [beq_iff_eq, h, if_false, List.mem_cons, h', false_or]
   simpa only [beq_iff_eq] using ih (i + 1)
theorem p_g_ContainsI {N : Nat} (l : List Int) (c : Int) (hl : l.length ≤ 1048576) (hN : 67108864 < N) : g_slices_Contains_Sint_int N l c = some (decide (c ∈ l)) := by
 unfold g_slices_Contains_Sint_int g_slices_Index_Sint_int
 rw [loop_first (N := N) (l := l) (fun (i : Nat) (x : Int) => (if (x == c) = true then some (i : Int) else none).map Cut.rt) (b := Cut.nx ()) (fun i x hx hi => by
  unfold g_slices_Index_Sint_int_L1
  rw [sel_pos (by omega), getI_nat hx, bnd_mk, show (c == x) = (x == c) by rw [Bool.eq_iff_iff]; simp only [beq_iff_eq]; exact eq_comm]
  cases x == c <;> rfl) (by unfold g_slices_Index_Sint_int_L1; rw [sel_neg (by omega)]) (by omega) (by omega)]
 rw [first_cut (fun (i : Nat) (x : Int) => if (x == c) = true then some (i : Int) else none), bnd_mk]
 exact congrArg some (decide_eq_decide.2 (by rw [has_first l c 0]))
theorem p_s_l8Has {N : Nat} (l : List Int) (c : Int) (hl : l.length ≤ 1048576) (hN : 67108864 < N) : s_l8Has N l c = some (decide (c ∈ l)) := by
 unfold s_l8Has
 rw [loop_all (N := N) (l := l) (fun x => !(x == c)) (b := true) (fun i x hx hi => by
  unfold s_l8Has_L1
  rw [sel_pos (by omega), getI_nat hx, bnd_mk]
  cases x == c <;> rfl) (by unfold s_l8Has_L1; rw [sel_neg (by omega)]) (by omega) (by omega)]
 split
 ·rename_i h
  rw [decide_eq_false]
  intro hc
  have := List.all_eq_true.1 h c hc
  simp at this
 ·rename_i h
  rw [decide_eq_true]
  refine Classical.byContradiction fun hc => h (List.all_eq_true.2 fun x hx => ?_)
  have : ¬ x = c := fun e => hc (e ▸ hx)
  simpa using this
def slotsAt (g : Gx.Grid) (c : Int) : List Int := atL (fun s => decide (c ∈ cellsL g s)) (slots g) 0 []
theorem cellsL_six {g : Gx.Grid} {R C : Nat} (D : Dims g R C) {s : Gx.Slot} (hs : s ∈ slots g) : (cellsL g s).length ≤ 6 := by
 obtain ⟨c, S⟩ := slots_in D hs
 rw [cellsL_len]; exact S.small D
theorem p_i_SlotsAt {N : Nat} (hN : 67108864 < N) {g : Gx.Grid} {R C : Nat} (D : Dims g R C) (c : Int) : i_SlotsAt N g c = some (slotsAt g c) := by
 have h72 := slots_len g
 unfold i_SlotsAt
 rw [p_i_layout hN, bnd_mk, loop_idx (N := N) (l := (slots g).map (cellsL g)) (fun L => decide (c ∈ L)) (fi := id) (fun i x a hx hi ha => by
  have hx6 : x.length ≤ 6 := by
   obtain ⟨s, hs, rfl⟩ := List.mem_map.1 (List.mem_of_getElem? hx)
   exact cellsL_six D hs
  have : i < 72 := by simp at hi; omega
  unfold i_SlotsAt_L1
  simp only
  rw [sel_pos (by omega), getI_nat hx, bnd_mk, p_g_ContainsI _ _ (by omega) hN, bnd_mk, chk_pos (by simp; omega)]
  cases decide (c ∈ x) <;> rfl) (fun a => by unfold i_SlotsAt_L1; rw [sel_neg (by simp)]; rfl) (by simp; omega) (by simp; omega), atL_map]
 rfl
theorem p_s_SlotsAt {N : Nat} (hN : 67108864 < N) {g : Gx.Grid} {R C : Nat} (D : Dims g R C) (c : Int) : s_SlotsAt N g c = some (slotsAt g c) := by
 have h72 := slots_len g
 have hlen := D.len
 have hrc := rc36 D.r2.2 D.c2.2
 unfold s_SlotsAt
 rw [p_s_SlotsOf hN g (by omega), bnd_mk, loop_idx (N := N) (l := slots g) (fun s => decide (c ∈ cellsL g s)) (fi := id) (fun i x a hx hi ha => by
  have hx6 := cellsL_six D (List.mem_of_getElem? hx)
  unfold s_SlotsAt_L1
  simp only
  rw [sel_pos (by omega), getI_nat hx, bnd_mk, p_s_CellsOf hN D (by omega) (List.mem_of_getElem? hx), bnd_mk, p_s_l8Has _ _ (by omega) hN, bnd_mk, chk_pos (by simp; omega)]
  cases decide (c ∈ cellsL g x) <;> rfl) (fun a => by unfold s_SlotsAt_L1; rw [sel_neg (by simp)]; rfl) (by omega) (by omega)]
 rfl
def unch (g : Gx.Grid) (L : List Int) : Int := L.foldl (fun a c => if (!(((slotsAt g c).length : Int) == 2)) = true then w64 (a + 1) else a) 0
theorem p_i_Unch_loop {N : Nat} (hN : 67108864 < N) {g : Gx.Grid} {R C : Nat} (D : Dims g R C) (L : List Int) (hL : L.length ≤ 1048576) : loopN (i_UncheckedIn_L1 N L g) N (0, 0) = some (unch g L) := by
 have := loop_fold (N := N) (step := i_UncheckedIn_L1 N L g) (fun i a => (a, (i : Int))) L (fun a c => if (!(((slotsAt g c).length : Int) == 2)) = true then w64 (a + 1) else a) id (fun _ _ => True) (a := 0) trivial
  (fun a _ => by unfold i_UncheckedIn_L1; rw [sel_neg (by simp)]; rfl)
  (fun i a c _ hc hi => ⟨by
   unfold i_UncheckedIn_L1 i_IsChecked
   simp only
   rw [sel_pos (by omega), getI_nat hc, bnd_mk, p_i_SlotsAt hN D, bnd_mk, bnd_mk, w64_nat (by omega)]
   cases (((slotsAt g c).length : Int) == 2) <;> rfl, trivial⟩) (by omega)
 exact this
theorem p_s_Unch_loop {N : Nat} (hN : 67108864 < N) {g : Gx.Grid} {R C : Nat} (D : Dims g R C) (L : List Int) (hL : L.length ≤ 1048576) : loopN (s_UncheckedIn_L1 N L g) N (0, 0) = some (unch g L) := by
 have := loop_fold (N := N) (step := s_UncheckedIn_L1 N L g) (fun i a => (a, (i : Int))) L (fun a c => if (!(((slotsAt g c).length : Int) == 2)) = true then w64 (a + 1) else a) id (fun _ _ => True) (a := 0) trivial
  (fun a _ => by unfold s_UncheckedIn_L1; rw [sel_neg (by simp)]; rfl)
  (fun i a c _ hc hi => ⟨by
   unfold s_UncheckedIn_L1 s_IsChecked
   simp only
   rw [sel_pos (by omega), getI_nat hc, bnd_mk, p_s_SlotsAt hN D, bnd_mk, bnd_mk, w64_nat (by omega)]
   cases (((slotsAt g c).length : Int) == 2) <;> rfl, trivial⟩) (by omega)
 exact this
theorem p_i_Unch {N : Nat} (hN : 67108864 < N) {g : Gx.Grid} {R C : Nat} (D : Dims g R C) {i : Nat} {s : Gx.Slot} (hs : (slots g)[i]? = some s) : i_UncheckedIn N g (i : Int) = some (unch g (cellsL g s)) := by
 have hi := (List.getElem?_eq_some_iff.1 hs).1
 have h6 := cellsL_six D (List.mem_of_getElem? hs)
 unfold i_UncheckedIn
 rw [p_i_layout hN, bnd_mk, p_i_at, bnd_mk, List.length_map, decide_eq_true (p := (0 ≤ (i : Int))) (by omega), decide_eq_true (p := ((i : Int) < ((slots g).length : Int))) (by omega), Bool.true_and, Bool.not_true, sel_false,
  getI_nat (x := cellsL g s) (by rw [List.getElem?_map, hs]; rfl), bnd_mk, p_i_Unch_loop hN D _ (by omega), bnd_mk]
theorem p_s_Unch {N : Nat} (hN : 67108864 < N) {g : Gx.Grid} {R C : Nat} (D : Dims g R C) {i : Nat} {s : Gx.Slot} (hs : (slots g)[i]? = some s) : s_UncheckedIn N g (i : Int) = some (unch g (cellsL g s)) := by
 have hi := (List.getElem?_eq_some_iff.1 hs).1
 have h6 := cellsL_six D (List.mem_of_getElem? hs)
 have h72 := slots_len g
 have hlen := D.len
 have hrc := rc36 D.r2.2 D.c2.2
 unfold s_UncheckedIn
 rw [p_s_SlotsOf hN g (by omega), bnd_mk, w64_in (by omega) (by omega), p_s_l1In, bnd_mk, decide_eq_true (by omega), Bool.not_true, sel_false, getI_nat hs, bnd_mk, p_s_CellsOf hN D (by omega) (List.mem_of_getElem? hs), bnd_mk, p_s_Unch_loop hN D _ (by omega), bnd_mk]
theorem mget_mput (a k v : Int) : ∀ l : List (Int × Int), mget a (mput k v l) = if a = k then v else mget a l
 | [] => by
  simp only [mput, mget]
  by_cases h : a = k
  ·subst h; simp
  ·have h' : (a == k) = false := by simpa using h
   rw [h', if_neg h]
 | (j, u) :: r => by
  simp only [mput]
  by_cases h : k = j
  ·subst h
   simp only [beq_self_eq_true, mget]
   by_cases h2 : a = k
   ·subst h2; simp
   ·have h' : (a == k) = false := by simpa using h2
    rw [h', if_neg h2]
  ·have : (k == j) = false := by simpa using h
   rw [this]
   simp only [mget]
   by_cases h2 : a = j
   ·subst h2
    have : ¬ a = k := fun e => h e.symm
    simp [this]
   ·have : (a == j) = false := by simpa using h2
    rw [this]
    simp only [mget_mput a k v r]
def marked (L : List Int) (t : List (Int × Int)) : List (Int × Int) := L.foldl (fun t c => mput c 1 t) t
theorem mget_marked (a : Int) : ∀ (L : List Int) (t : List (Int × Int)), mget a (marked L t) = if a ∈ L then 1 else mget a t
 | [], t => by simp [marked]
 | c :: r, t => by
  have := mget_marked a r (mput c 1 t)
  simp only [marked, List.foldl_cons] at this ⊢
  rw [this, mget_mput]
  by_cases h : a ∈ r
  ·simp [h]
  ·by_cases h2 : a = c <;> simp [h, h2]
def markedAll (x : List (List Int)) (t : List (Int × Int)) : List (Int × Int) := x.foldl (fun t L => marked L t) t
theorem mget_all (a : Int) : ∀ (x : List (List Int)) (t : List (Int × Int)), mget a (markedAll x t) = if ∃ L ∈ x, a ∈ L then 1 else mget a t
 | [], t => by simp [markedAll]
 | L :: r, t => by
  have := mget_all a r (marked L t)
  simp only [markedAll, List.foldl_cons] at this ⊢
  rw [this, mget_marked]
  by_cases h : ∃ L ∈ r, a ∈ L
  ·rw [if_pos h, if_pos]; obtain ⟨M, h1, h2⟩ := h; exact ⟨M, List.mem_cons_of_mem _ h1, h2⟩
  ·rw [if_neg h]
   by_cases h2 : a ∈ L
   ·rw [if_pos h2, if_pos]; exact ⟨L, by simp, h2⟩
   ·rw [if_neg h2, if_neg]; rintro ⟨M, h3, h4⟩
    rcases List.mem_cons.1 h3 with rfl | h3
    ·exact h2 h4
    ·exact h ⟨M, h3, h4⟩
def bare (g : Gx.Grid) (p : Nat) : Bool := dot g p && !((slots g).any fun s => decide ((p : Int) ∈ cellsL g s))
def isAlone (g : Gx.Grid) : Bool := !(allI (fun p (_ : UInt8) => !bare g p) g.mCells 0)
theorem p_i_alone {N : Nat} (hN : 67108864 < N) {g : Gx.Grid} (hg : isGrid g = true) : i_alone N g g.mCells = some (isAlone g) := by
 obtain ⟨R, C, D⟩ := (isGrid_ok hg).dims
 have h72 := slots_len g
 have hlen := D.len
 have hrc := rc36 D.r2.2 D.c2.2
 unfold i_alone
 have l2 : ∀ (L : List Int) (t : List (Int × Int)), L.length ≤ 6 → loopN (i_alone_L2 N L) N (t, 0) = some (marked L t) := fun L t hL => by
  have := loop_fold (N := N) (step := i_alone_L2 N L) (fun i a => (a, (i : Int))) L (fun t c => mput c 1 t) id (fun _ _ => True) (a := t) trivial
   (fun a _ => by unfold i_alone_L2; rw [sel_neg (by simp)]; rfl)
   (fun i a c _ hc hi => ⟨by
    unfold i_alone_L2
    simp only
    rw [sel_pos (by omega), getI_nat hc, bnd_mk, w64_nat (by omega)], trivial⟩) (by omega)
  exact this
 have l1 : loopN (i_alone_L1 N ((slots g).map (cellsL g))) N (([] : List (Int × Int)), 0) = some (markedAll ((slots g).map (cellsL g)) []) := by
  have := loop_fold (N := N) (step := i_alone_L1 N ((slots g).map (cellsL g))) (fun i a => (a, (i : Int))) ((slots g).map (cellsL g)) (fun t L => marked L t) id (fun _ _ => True) (a := []) trivial
   (fun a _ => by unfold i_alone_L1; rw [sel_neg (by simp)]; rfl)
   (fun i a L _ hL hi => ⟨by
    have hx6 : L.length ≤ 6 := by
     obtain ⟨s, hs, rfl⟩ := List.mem_map.1 (List.mem_of_getElem? hL)
     exact cellsL_six D hs
    have hi' : i < (slots g).length := by simpa using hi
    unfold i_alone_L1
    simp only
    rw [sel_pos (by omega), getI_nat hL, bnd_mk, l2 L a hx6, bnd_mk, w64_nat (by omega)], trivial⟩) (by simp; omega)
  exact this
 rw [p_i_layout hN, bnd_mk, l1, bnd_mk, loop_allI (N := N) (γ := Unit) (l := g.mCells) (fun p (_ : UInt8) => !bare g p) (b := true) (fun i c hc hi => by
  unfold i_alone_L3
  rw [sel_pos (by omega), chk_pos (by omega), dot_byte (by omega), mget_all]
  have hcov : (∃ L ∈ (slots g).map (cellsL g), (i : Int) ∈ L) ↔ ((slots g).any fun s => decide ((i : Int) ∈ cellsL g s)) = true := by
   rw [List.any_eq_true]
   constructor
   ·rintro ⟨L, hL, h⟩
    obtain ⟨s, hs, rfl⟩ := List.mem_map.1 hL
    exact ⟨s, hs, decide_eq_true h⟩
   ·rintro ⟨s, hs, h⟩
    exact ⟨cellsL g s, List.mem_map.2 ⟨s, hs, rfl⟩, of_decide_eq_true h⟩
  unfold bare
  cases hd : dot g i with
  | false => rfl
  | true =>
   rw [sel_true]
   by_cases hcv : ∃ L ∈ (slots g).map (cellsL g), (i : Int) ∈ L
   ·rw [if_pos hcv, hcov.1 hcv]; rfl
   ·have hcv' : ((slots g).any fun s => decide ((i : Int) ∈ cellsL g s)) = false := by
     cases h : (slots g).any fun s => decide ((i : Int) ∈ cellsL g s) with
     | false => rfl
     | true => exact absurd (hcov.2 h) hcv
    rw [if_neg hcv, hcv']
    have hdot : c = 46 := by
     unfold dot at hd
     rw [List.getD_eq_getElem?_getD, hc] at hd
     simpa using hd
    rw [chk_pos (by omega), byteI_nat hc, p_i_isLetter, bnd_mk]
    subst hdot
    rfl) (by unfold i_alone_L3; rw [sel_neg (by omega)]) (by omega) (by omega)]
 unfold isAlone
 cases allI (fun p (_ : UInt8) => !bare g p) g.mCells 0 <;> rfl
def long3 (g : Gx.Grid) : Bool := (slots g).all fun s => !decide (s.mLength < 3)
def okUnch (g : Gx.Grid) : Bool := (slots g).all fun s => !decide (w64 (2 * unch g (cellsL g s)) > s.mLength)
theorem p_s_l10Short {N : Nat} (hN : 67108864 < N) {g : Gx.Grid} (hg : g.mCells.length ≤ 1048576) : s_l10Short N g = some (!long3 g) := by
 have h72 := slots_len g
 unfold s_l10Short long3
 rw [p_s_SlotsOf hN g hg, bnd_mk, loop_all (N := N) (l := slots g) (fun s => !decide (s.mLength < 3)) (b := true) (fun i x hx hi => by
  unfold s_l10Short_L1
  rw [sel_pos (by omega), getI_nat hx, bnd_mk]
  cases decide (x.mLength < 3) <;> rfl) (by unfold s_l10Short_L1; rw [sel_neg (by omega)]) (by omega) (by omega)]
 cases (slots g).all fun s => !decide (s.mLength < 3) <;> rfl
theorem p_s_l10Alone {N : Nat} (hN : 67108864 < N) {g : Gx.Grid} (hg : isGrid g = true) : s_l10Alone N g = some (!okUnch g || isAlone g) := by
 obtain ⟨R, C, D⟩ := (isGrid_ok hg).dims
 have h72 := slots_len g
 have hlen := D.len
 have hrc := rc36 D.r2.2 D.c2.2
 unfold s_l10Alone okUnch
 rw [p_s_SlotsOf hN g (by omega), bnd_mk, loop_all (N := N) (l := slots g) (fun s => !decide (w64 (2 * unch g (cellsL g s)) > s.mLength)) (b := true) (fun i x hx hi => by
  unfold s_l10Alone_L1
  rw [sel_pos (by omega), p_s_Unch hN D hx, bnd_mk, getI_nat hx, bnd_mk]
  cases decide (w64 (2 * unch g (cellsL g x)) > x.mLength) <;> rfl) (by unfold s_l10Alone_L1; rw [sel_neg (by omega)]) (by omega) (by omega)]
 cases (slots g).all fun s => !decide (w64 (2 * unch g (cellsL g s)) > s.mLength) with
 | false => rfl
 | true =>
  rw [if_pos rfl, loop_allI (N := N) (γ := Unit) (l := g.mCells) (fun p (_ : UInt8) => !bare g p) (b := true) (fun i c hc hi => by
   unfold s_l10Alone_L2 s_IsWhite
   rw [sel_pos (by omega), p_s_IsGrid hN, hg, bnd_mk, sel_true, w64_in (by omega) (by omega), p_s_l1In, bnd_mk, decide_eq_true (by omega), sel_true, chk_pos (by omega), dot_byte (by omega), bnd_mk, p_s_SlotsAt hN D, bnd_mk]
   unfold bare
   cases hd : dot g i with
   | false => rfl
   | true =>
    rw [sel_true]
    obtain ⟨q1, q2⟩ := atL_len (fun s => decide ((i : Int) ∈ cellsL g s)) (slots g) 0 []
    cases hcv : (slots g).any fun s => decide ((i : Int) ∈ cellsL g s) with
    | false =>
     have hz : (slotsAt g (i : Int)).length = 0 := q2.2 fun x hx => by
      cases h : decide ((i : Int) ∈ cellsL g x) with
      | false => rfl
      | true =>
       have h5 : ((slots g).any fun s => decide ((i : Int) ∈ cellsL g s)) = true := List.any_eq_true.2 ⟨x, hx, h⟩
       rw [hcv] at h5; cases h5
     rw [hz]; rfl
    | true =>
     have hz : ¬ (slotsAt g (i : Int)).length = 0 := fun h => by
      obtain ⟨x, hx, h2⟩ := List.any_eq_true.1 hcv
      have h3 := q2.1 h x hx
      rw [h2] at h3; cases h3
     have : (((slotsAt g (i : Int)).length : Int) == 0) = false := by simpa using hz
     rw [this]; rfl) (by unfold s_l10Alone_L2; rw [sel_neg (by omega)]) (by omega) (by omega)]
  unfold isAlone
  cases allI (fun p (_ : UInt8) => !bare g p) g.mCells 0 <;> rfl
theorem p_FormOf {N : Nat} (hN : 67108864 < N) (g : Gx.Grid) : ∃ v, i_FormOf N g = some v ∧ s_FormOf N g = some v ∧ (v = 0 → isGrid g = true) := by
 unfold i_FormOf s_FormOf
 rw [p_i_IsGrid hN, p_s_IsGrid hN, bnd_mk, bnd_mk]
 cases hg : isGrid g with
 | false => exact ⟨1, rfl, rfl, by simp⟩
 | true =>
  obtain ⟨R, C, D⟩ := (isGrid_ok hg).dims
  have h72 := slots_len g
  have hlen := D.len
  have hrc := rc36 D.r2.2 D.c2.2
  rw [Bool.not_true, sel_false, sel_false, p_i_IsSymmetric hN hg, p_s_IsSymmetric hN hg, bnd_mk, bnd_mk]
  cases isSym g with
  | false => exact ⟨2, rfl, rfl, fun _ => rfl⟩
  | true =>
   obtain ⟨v, q1, q2⟩ := p_Parts hN hg
   unfold i_IsConnected s_IsConnected
   rw [Bool.not_true, sel_false, sel_false, q1, q2, bnd_mk, bnd_mk, bnd_mk]
   cases v == 1 with
   | false => exact ⟨3, rfl, rfl, fun _ => rfl⟩
   | true =>
    rw [Bool.not_true, sel_false, sel_false, p_s_l10Short hN (by omega), bnd_mk, p_i_SlotsOf hN, bnd_mk, loop_all (N := N) (l := slots g) (fun s => !decide (s.mLength < 3)) (b := (4 : Int)) (fun i x hx hi => by
     unfold i_FormOf_L1
     rw [sel_pos (by omega), getI_nat hx, bnd_mk]
     cases decide (x.mLength < 3) <;> rfl) (by unfold i_FormOf_L1; rw [sel_neg (by omega)]) (by omega) (by omega)]
    unfold long3
    cases (slots g).all fun s => !decide (s.mLength < 3) with
    | false => exact ⟨4, rfl, rfl, fun _ => rfl⟩
    | true =>
     rw [if_pos rfl, p_s_l10Alone hN hg, loop_all (N := N) (l := slots g) (fun s => !decide (w64 (2 * unch g (cellsL g s)) > s.mLength)) (b := (5 : Int)) (fun i x hx hi => by
      unfold i_FormOf_L2
      rw [sel_pos (by omega), getI_nat hx, bnd_mk, p_i_Unch hN D hx, bnd_mk]
      cases decide (w64 (2 * unch g (cellsL g x)) > x.mLength) <;> rfl) (by unfold i_FormOf_L2; rw [sel_neg (by omega)]) (by omega) (by omega)]
     unfold okUnch
     cases (slots g).all fun s => !decide (w64 (2 * unch g (cellsL g s)) > s.mLength) with
     | false => exact ⟨5, rfl, rfl, fun _ => rfl⟩
     | true =>
      rw [if_pos rfl, p_i_alone hN hg]
      cases isAlone g
      ·exact ⟨0, rfl, rfl, fun _ => rfl⟩
      ·exact ⟨5, rfl, rfl, fun _ => rfl⟩
def pairK (k : Int) : Bool := k == 4 || k == 5
def needsK (k : Int) : Bool := k == 3 || decide (k ≥ 6)
theorem p_i_isPair (N : Nat) (k : Int) : i_isPair N k = some (pairK k) := by unfold i_isPair pairK; cases k == 4 <;> rfl
theorem p_i_needsWord (N : Nat) (k : Int) : i_needsWord N k = some (needsK k) := by unfold i_needsWord needsK; cases k == 3 <;> rfl
theorem needs_eq {k : Int} (h1 : inR k 1 9 = true) (h2 : (k == 1) = false) : needsK k = (!pairK k && !(k == 2)) := by
 have h3 : k ≠ 1 := by simpa using h2
 have h4 := of_decide_eq_true h1
 have : k = 2 ∨ k = 3 ∨ k = 4 ∨ k = 5 ∨ k = 6 ∨ k = 7 ∨ k = 8 ∨ k = 9 := by omega
 rcases this with rfl | rfl | rfl | rfl | rfl | rfl | rfl | rfl <;> rfl
def noStep : Gx.Step := ⟨0, [], 0, 0⟩
def kindAt (l : List Gx.Step) (a : Int) : Int := (l.getD a.toNat noStep).mKind
def okStep (l : List Gx.Step) (i : Nat) (x : Gx.Step) : Bool :=
 inR x.mKind 1 9 && (if (x.mKind == 1) = true then isWord x.mWord && ((x.mA == 0) && (x.mB == 0))
  else (x.mWord == []) && ((decide (0 ≤ x.mA) && decide (x.mA < (i : Int))) && ((!needsK x.mKind || (kindAt l x.mA == 1)) && (if pairK x.mKind = true then decide (0 ≤ x.mB) && decide (x.mB < (i : Int)) else (x.mB == 0)))))
theorem step_at {l : List Gx.Step} {i : Nat} {x : Gx.Step} (hx : l[i]? = some x) {a : Int} (h0 : 0 ≤ a) (h1 : a < (i : Int)) : getI l a = some (l.getD a.toNat noStep) := by
 have hi := (List.getElem?_eq_some_iff.1 hx).1
 obtain ⟨n, rfl⟩ : ∃ n : Nat, a = (n : Int) := ⟨a.toNat, by omega⟩
 have hn : n < l.length := by omega
 rw [show ((n : Int)).toNat = n by omega, List.getD_eq_getElem?_getD, List.getElem?_eq_getElem hn]
 exact getI_nat (List.getElem?_eq_getElem hn)
theorem okStep_one {l : List Gx.Step} {i : Nat} {x : Gx.Step} (h : inR x.mKind 1 9 = true) (h1 : (x.mKind == 1) = true) : okStep l i x = (isWord x.mWord && ((x.mA == 0) && (x.mB == 0))) := by unfold okStep; rw [h, if_pos h1]; rfl
theorem okStep_not {l : List Gx.Step} {i : Nat} {x : Gx.Step} (h : inR x.mKind 1 9 = true) (h1 : (x.mKind == 1) = false) : okStep l i x = ((x.mWord == []) && ((decide (0 ≤ x.mA) && decide (x.mA < (i : Int))) && ((!needsK x.mKind || (kindAt l x.mA == 1)) && (if pairK x.mKind = true then decide (0 ≤ x.mB) && decide (x.mB < (i : Int)) else (x.mB == 0))))) := by unfold okStep; rw [h, if_neg (by simp [h1])]; rfl
theorem okStep_out {l : List Gx.Step} {i : Nat} {x : Gx.Step} (h : inR x.mKind 1 9 = false) : okStep l i x = false := by unfold okStep; rw [h]; rfl
theorem p_i_step {N : Nat} (hN : 67108864 < N) {l : List Gx.Step} {i : Nat} {x : Gx.Step} (hx : l[i]? = some x) : i_IsPlay_L1 N l (i : Int) = if okStep l i x = true then some (.inl (w64 ((i : Int) + 1))) else some (.inr (.rt false)) := by
 have hi := (List.getElem?_eq_some_iff.1 hx).1
 unfold i_IsPlay_L1
 rw [sel_pos (by omega), getI_nat hx, bnd_mk, p_i_inR, bnd_mk]
 cases hk : inR x.mKind 1 9 with
 | false => rw [okStep_out hk]; rfl
 | true =>
  cases h1 : x.mKind == 1 with
  | true =>
   rw [okStep_one hk h1, Bool.not_true, sel_false, sel_true, p_i_IsWord hN, bnd_mk]
   simp only [bne, h1]
   cases isWord x.mWord <;> cases x.mA == 0 <;> cases x.mB == 0 <;> rfl
  | false =>
   rw [okStep_not hk h1, Bool.not_true, sel_false, sel_false, p_i_at, p_i_at]
   simp only [p_i_needsWord, p_i_isPair, bne, bnd_mk]
   cases hw : x.mWord == [] with
   | false => rfl
   | true =>
    cases hA : decide (0 ≤ x.mA) && decide (x.mA < (i : Int)) with
    | false => rfl
    | true =>
     simp only [Bool.and_eq_true, decide_eq_true_eq] at hA
     rw [step_at hx hA.1 hA.2, bnd_mk]
     unfold kindAt
     cases needsK x.mKind <;> cases (l.getD x.mA.toNat noStep).mKind == 1 <;> cases pairK x.mKind <;> cases decide (0 ≤ x.mB) && decide (x.mB < (i : Int)) <;> cases x.mB == 0 <;> rfl
theorem p_s_l15Ok {N : Nat} (hN : 67108864 < N) {l : List Gx.Step} {i : Nat} {x : Gx.Step} (hx : l[i]? = some x) (hl : l.length ≤ 9) : s_l15Ok N l (i : Int) = some (okStep l i x) := by
 have hi := (List.getElem?_eq_some_iff.1 hx).1
 unfold s_l15Ok
 rw [getI_nat hx, bnd_mk, p_s_inR, bnd_mk]
 cases hk : inR x.mKind 1 9 with
 | false => rw [okStep_out hk]; rfl
 | true =>
  rw [Bool.not_true, sel_false, p_s_IsWord hN, bnd_mk]
  have hp : (sel (x.mKind == 4) (some true) (some (x.mKind == 5))) = some (pairK x.mKind) := by unfold pairK; cases x.mKind == 4 <;> rfl
  have hAB : ∀ a : Int, inR a 0 (w64 ((i : Int) - 1)) = (decide (0 ≤ a) && decide (a < (i : Int))) := fun a => by
   rw [w64_in (by omega) (by omega)]
   unfold inR
   rw [Bool.eq_iff_iff]
   simp only [Bool.and_eq_true, decide_eq_true_eq]
   omega
  rw [hp]
  simp only [p_s_inR, hAB, bnd_mk]
  cases h1 : x.mKind == 1 with
  | true =>
   rw [okStep_one hk h1]
   simp only [bne, h1]
   cases isWord x.mWord <;> cases x.mA == 0 <;> cases x.mB == 0 <;> rfl
  | false =>
   rw [okStep_not hk h1, needs_eq hk h1]
   simp only [bne, h1]
   cases hw : x.mWord == [] with
   | false => cases isWord x.mWord <;> rfl
   | true =>
    have hw0 : isWord x.mWord = false := by
     have : x.mWord = [] := by simpa using hw
     rw [this]; rfl
    rw [hw0]
    cases hA : decide (0 ≤ x.mA) && decide (x.mA < (i : Int)) with
    | false => rfl
    | true =>
     simp only [Bool.and_eq_true, decide_eq_true_eq] at hA
     rw [step_at hx hA.1 hA.2, bnd_mk]
     unfold kindAt
     cases x.mKind == 2 <;> cases (l.getD x.mA.toNat noStep).mKind == 1 <;> cases pairK x.mKind <;> cases decide (0 ≤ x.mB) && decide (x.mB < (i : Int)) <;> cases x.mB == 0 <;> rfl
def isPlay (l : List Gx.Step) : Bool := decide (1 ≤ l.length ∧ l.length ≤ 9) && allI (okStep l) l 0
theorem p_i_IsPlay {N : Nat} (hN : 67108864 < N) (l : List Gx.Step) : i_IsPlay N l = some (isPlay l) := by
 unfold i_IsPlay isPlay
 rw [p_i_InRange, bnd_mk]
 by_cases h : 1 ≤ l.length ∧ l.length ≤ 9
 ·rw [decide_eq_true h, decide_eq_true (by omega), Bool.not_true, sel_false, loop_allI (N := N) (γ := Unit) (l := l) (okStep l) (b := false) (fun i x hx hi => p_i_step hN hx) (by unfold i_IsPlay_L1; rw [sel_neg (by omega)]) (by omega) (by omega)]
  cases allI (okStep l) l 0 <;> rfl
 ·rw [decide_eq_false h, decide_eq_false (by omega)]; rfl
theorem p_s_IsPlay {N : Nat} (hN : 67108864 < N) (l : List Gx.Step) : s_IsPlay N l = some (isPlay l) := by
 unfold s_IsPlay isPlay
 rw [p_s_l1In]
 by_cases h9 : l.length ≤ 9
 ·rw [loop_allI (N := N) (γ := Unit) (l := l) (okStep l) (b := false) (fun i x hx hi => by
   unfold s_IsPlay_L1
   rw [sel_pos (by omega), sel_pos (by omega), p_s_l15Ok hN hx h9, bnd_mk]
   cases okStep l i x <;> rfl) (by unfold s_IsPlay_L1; rw [sel_neg (by omega)]) (by omega) (by omega)]
  by_cases h : 1 ≤ l.length
  ·rw [decide_eq_true (p := (1 ≤ l.length ∧ l.length ≤ 9)) ⟨h, h9⟩, decide_eq_true (by omega)]
   cases allI (okStep l) l 0 <;> rfl
  ·rw [decide_eq_false (p := (1 ≤ l.length ∧ l.length ≤ 9)) (by omega), decide_eq_false (by omega)]
   cases allI (okStep l) l 0 <;> rfl
 ·obtain ⟨M, rfl⟩ : ∃ k, N = k + 1 := ⟨N - 1, by omega⟩
  have e : s_IsPlay_L1 (M + 1) l 0 = some (.inr (.nx ())) := by unfold s_IsPlay_L1; rw [sel_pos (by omega), sel_neg (by omega)]
  simp only [loopN, e]
  rw [decide_eq_false (p := (1 ≤ l.length ∧ l.length ≤ 9)) (by omega), decide_eq_false (by omega)]
  rfl
def isClue (c : Gx.Clue) : Bool := inR c.mSense 1 99 && isPlay c.mPlay
theorem p_i_IsClue {N : Nat} (hN : 67108864 < N) (c : Gx.Clue) : i_IsClue N c = some (isClue c) := by
 unfold i_IsClue isClue
 rw [p_i_inR, bnd_mk, p_i_IsPlay hN]
 cases inR c.mSense 1 99 <;> rfl
theorem p_s_IsClue {N : Nat} (hN : 67108864 < N) (c : Gx.Clue) : s_IsClue N c = some (isClue c) := by
 unfold s_IsClue isClue
 rw [p_s_inR, bnd_mk, p_s_IsPlay hN]
 cases inR c.mSense 1 99 <;> rfl
theorem any_first' {α : Type} (p : α → Bool) : ∀ (l : List α) (i : Nat), firstV (fun (i : Nat) (x : α) => if p x = true then some (i : Int) else none) l i (-1) ≥ 0 ↔ l.any p = true
 | [], i => by simp [firstV]
 | x :: r, i => by
  simp only [firstV, List.any_cons]
  by_cases hp : p x = true
  ·rw [if_pos hp, hp, Bool.true_or]; exact ⟨fun _ => rfl, fun _ => by show (i : Int) ≥ 0; omega⟩
  ·have hp' : p x = false := by simpa using hp
   rw [if_neg hp, hp', Bool.false_or]; exact any_first' p r (i + 1)
theorem any_first {α : Type} (p : α → Bool) (l : List α) (i : Nat) : decide (firstV (fun (i : Nat) (x : α) => if p x = true then some (i : Int) else none) l i (-1) ≥ 0) = l.any p := by
 rw [Bool.eq_iff_iff, decide_eq_true_iff]; exact any_first' p l i
theorem p_g_ContainsClue {N : Nat} (l : List Gx.Clue) (f : Gx.Clue → Option Bool) (p : Gx.Clue → Bool) (hf : ∀ x ∈ l, f x = some (p x)) (hl : l.length ≤ 1048576) (hN : 67108864 < N) : g_slices_ContainsFunc_Simpl_Clue_impl_Clue N l f = some (l.any p) := by
 unfold g_slices_ContainsFunc_Simpl_Clue_impl_Clue g_slices_IndexFunc_Simpl_Clue_impl_Clue
 rw [loop_first (N := N) (l := l) (fun (i : Nat) (x : Gx.Clue) => (if p x = true then some (i : Int) else none).map Cut.rt) (b := Cut.nx ()) (fun i x hx hi => by
  unfold g_slices_IndexFunc_Simpl_Clue_impl_Clue_L1
  rw [sel_pos (by omega), getI_nat hx, bnd_mk, hf x (List.mem_of_getElem? hx), bnd_mk]
  cases p x <;> rfl) (by unfold g_slices_IndexFunc_Simpl_Clue_impl_Clue_L1; rw [sel_neg (by omega)]) (by omega) (by omega)]
 rw [first_cut (fun (i : Nat) (x : Gx.Clue) => if p x = true then some (i : Int) else none), bnd_mk, any_first]
structure PuzSmall (p : Gx.Puzzle) : Prop where
 clues : p.mClues.length ≤ 1048576
 cells : p.mGrid.mCells.length ≤ 1048576
theorem p_IsPuzzle {N : Nat} (hN : 67108864 < N) {p : Gx.Puzzle} (hp : PuzSmall p) : ∃ b, i_IsPuzzle N p = some b ∧ s_IsPuzzle N p = some b ∧ (b = true → isGrid p.mGrid = true ∧ p.mClues.length = (slots p.mGrid).length ∧ p.mSeals.length = (slots p.mGrid).length ∧ ∀ c ∈ p.mClues, isClue c = true) := by
 obtain ⟨v, q1, q2, q3⟩ := p_FormOf hN p.mGrid
 have hc := hp.clues
 unfold i_IsPuzzle s_IsPuzzle
 rw [q1, q2, bnd_mk, p_i_SlotsOf hN, bnd_mk, p_s_SlotsOf hN _ hp.cells, p_i_inR, p_s_inR]
 rw [p_g_ContainsClue p.mClues (fun a0 => i_IsPuzzle_1 N a0) (fun c => !isClue c) (fun c _ => by unfold i_IsPuzzle_1; rw [p_i_IsClue hN]; rfl) hc hN]
 rw [loop_all (N := N) (l := p.mClues) isClue (b := false) (fun i x hx hi => by
  unfold s_IsPuzzle_L1
  rw [sel_pos (by omega), getI_nat hx, bnd_mk, p_s_IsClue hN, bnd_mk]
  cases isClue x <;> rfl) (by unfold s_IsPuzzle_L1; rw [sel_neg (by omega)]) (by omega) (by omega)]
 have ha : (p.mClues.any fun c => !isClue c) = !p.mClues.all isClue := by rw [List.all_eq_not_any_not, Bool.not_not]
 rw [ha]
 simp only [bnd_mk, bne]
 cases hv : v == 0 with
 | false => exact ⟨false, rfl, by cases p.mClues.all isClue <;> rfl, by simp⟩
 | true =>
  cases h1 : ((p.mClues.length : Int) == ((slots p.mGrid).length : Int)) with
  | false => exact ⟨false, rfl, by cases p.mClues.all isClue <;> rfl, by simp⟩
  | true =>
   cases h2 : ((p.mSeals.length : Int) == ((slots p.mGrid).length : Int)) with
   | false => exact ⟨false, rfl, by cases p.mClues.all isClue <;> rfl, by simp⟩
   | true =>
    cases h3 : inR p.mSalt 1 9999 with
    | false => exact ⟨false, rfl, by cases p.mClues.all isClue <;> rfl, by simp⟩
    | true =>
     cases h4 : p.mClues.all isClue with
     | false => exact ⟨false, rfl, rfl, by simp⟩
     | true =>
      refine ⟨true, rfl, rfl, fun _ => ⟨q3 (by simpa using hv), ?_, ?_, fun c hc => List.all_eq_true.1 h4 c hc⟩⟩
      ·have : (p.mClues.length : Int) = ((slots p.mGrid).length : Int) := by simpa using h1
       omega
      ·have : (p.mSeals.length : Int) = ((slots p.mGrid).length : Int) := by simpa using h2
       omega
theorem puz_small {x : Gx.Issue} (h : CpIss x) : PuzSmall x.mPuzzle := ⟨h.clues, h.cells⟩
def lettersOf (w : List UInt8) : List Int := w.map fun c => (c.toNat : Int)
theorem w64_byte {s : List UInt8} {i : Nat} {c : UInt8} (h : s[i]? = some c) : w64 (byteI s (i : Int)) = (c.toNat : Int) := by
 rw [byteI_nat h]; have := c.toNat_lt; exact w64_in (by omega) (by omega)
theorem p_s_LettersOf {N : Nat} (w : List UInt8) (hl : w.length ≤ 1048576) (hN : 67108864 < N) : s_LettersOf N w = some (lettersOf w) := by
 unfold s_LettersOf
 rw [loop_map (N := N) (l := w) (step := s_LettersOf_L1 N w) (fun c : UInt8 => (c.toNat : Int)) (fi := fun a => a) (fun i x a hx hi ha => by
  unfold s_LettersOf_L1
  simp only
  rw [sel_pos (by omega), chk_pos (by omega), w64_byte hx, chk_pos (by simp; omega)]) (fun a => by unfold s_LettersOf_L1; rw [sel_neg (by simp only; omega)]) (by omega) (by omega)]
 rfl
theorem p_i_LettersOf {N : Nat} (w : List UInt8) (hl : w.length ≤ 1048576) (hN : 67108864 < N) : i_LettersOf N w = some (lettersOf w) := p_s_LettersOf w hl hN
def modV (v : Int) : Int := Int.tmod (w64 ((Int.tmod v 2147483647) + 2147483647)) 2147483647
theorem p_s_Mod (N : Nat) (v : Int) : s_Mod N v 2147483647 = some (modV v) := by
 unfold s_Mod
 rw [p_s_l1In, bnd_mk, decide_eq_true (by omega), Bool.not_true, sel_false, chk_pos (by omega), chk_pos (by omega)]; rfl
theorem p_i_Mod (N : Nat) (v : Int) : i_Mod N v 2147483647 = some (modV v) := by
 unfold i_Mod
 rw [p_i_InRange, bnd_mk, decide_eq_true (by omega), Bool.not_true, sel_false, chk_pos (by omega), chk_pos (by omega)]; rfl
def hashF (l : List Int) : Int := l.foldl (fun h v => Int.tmod (w64 ((w64 ((w64 (h * 1000003)) + modV v)) + 13)) 2147483647) 11
theorem p_s_Hash {N : Nat} (l : List Int) (hl : l.length ≤ 1048576) (hN : 67108864 < N) : s_Hash N l = some (hashF l) := by
 unfold s_Hash
 have := loop_fold (N := N) (step := s_Hash_L1 N l) (fun i (a : Int) => (a, (i : Int))) l (fun h v => Int.tmod (w64 ((w64 ((w64 (h * 1000003)) + modV v)) + 13)) 2147483647) (fun a => a) (fun _ _ => True) (a := 11) trivial
  (fun a _ => by unfold s_Hash_L1; rw [sel_neg (by simp only; omega)])
  (fun i a x _ hx hi => ⟨by
   unfold s_Hash_L1
   simp only
   rw [sel_pos (by omega), getI_nat hx, bnd_mk, p_s_Mod, bnd_mk, chk_pos (by omega), w64_nat (by omega)], trivial⟩) (by omega)
 rw [show ((11, 0) : Int × Int) = (11, ((0 : Nat) : Int)) from rfl, this, bnd_mk]; rfl
theorem p_i_Hash {N : Nat} (l : List Int) (hl : l.length ≤ 1048576) (hN : 67108864 < N) : i_Hash N l = some (hashF l) := by
 unfold i_Hash
 have := loop_fold (N := N) (step := i_Hash_L1 N l) (fun i (a : Int) => (a, (i : Int))) l (fun h v => Int.tmod (w64 ((w64 ((w64 (h * 1000003)) + modV v)) + 13)) 2147483647) (fun a => a) (fun _ _ => True) (a := 11) trivial
  (fun a _ => by unfold i_Hash_L1; rw [sel_neg (by simp only; omega)])
  (fun i a x _ hx hi => ⟨by
   unfold i_Hash_L1
   simp only
   rw [sel_pos (by omega), getI_nat hx, bnd_mk, p_i_Mod, bnd_mk, chk_pos (by omega), w64_nat (by omega)], trivial⟩) (by omega)
 rw [show ((11, 0) : Int × Int) = (11, ((0 : Nat) : Int)) from rfl, this, bnd_mk]; rfl
def sealV (salt slot : Int) (w : List UInt8) : Int := if isWord w = true then hashF ([salt, slot, (w.length : Int)] ++ lettersOf w) else 0
theorem word_len {w : List UInt8} (h : isWord w = true) : w.length ≤ 8 := by
 unfold isWord at h; simp only [Bool.and_eq_true, decide_eq_true_eq] at h; exact h.1.2
theorem p_s_SealAnswer {N : Nat} (hN : 67108864 < N) (salt slot : Int) (w : List UInt8) : s_SealAnswer N salt slot w = some (sealV salt slot w) := by
 unfold s_SealAnswer sealV
 rw [p_s_IsWord hN, bnd_mk]
 cases h : isWord w with
 | false => rfl
 | true =>
  have hl := word_len h
  have hlo : (lettersOf w).length = w.length := by simp [lettersOf]
  rw [Bool.not_true, sel_false, p_s_LettersOf w (by omega) hN, bnd_mk, chk_pos (by simp; omega), p_s_Hash _ (by simp; omega) hN, bnd_mk, if_pos rfl]
theorem p_i_SealAnswer {N : Nat} (hN : 67108864 < N) (salt slot : Int) (w : List UInt8) : i_SealAnswer N salt slot w = some (sealV salt slot w) := by
 unfold i_SealAnswer sealV
 rw [p_i_IsWord hN, bnd_mk]
 cases h : isWord w with
 | false => rfl
 | true =>
  have hl := word_len h
  have hlo : (lettersOf w).length = w.length := by simp [lettersOf]
  rw [Bool.not_true, sel_false, p_i_LettersOf w (by omega) hN, bnd_mk, chk_pos (by simp; omega), p_i_Hash _ (by simp; omega) hN, bnd_mk, if_pos rfl]
def checksV (seals : List Int) (salt slot : Int) (w : List UInt8) : Bool := (decide (0 ≤ slot) && decide (slot < (seals.length : Int))) && (isWord w && (sealV salt slot w == seals.getD slot.toNat 0))
theorem getI_D {l : List Int} {a : Int} (h0 : 0 ≤ a) (h1 : a < (l.length : Int)) : getI l a = some (l.getD a.toNat 0) := by
 obtain ⟨n, rfl⟩ : ∃ n : Nat, a = (n : Int) := ⟨a.toNat, by omega⟩
 rw [show ((n : Int)).toNat = n by omega, List.getD_eq_getElem?_getD, List.getElem?_eq_getElem (by omega)]
 exact getI_nat (List.getElem?_eq_getElem (by omega))
theorem p_i_ChecksAnswer {N : Nat} (hN : 67108864 < N) (seals : List Int) (salt slot : Int) (w : List UInt8) : i_ChecksAnswer N seals salt slot w = some (checksV seals salt slot w) := by
 unfold i_ChecksAnswer checksV
 rw [p_i_at, bnd_mk]
 cases h : decide (0 ≤ slot) && decide (slot < (seals.length : Int)) with
 | false => rfl
 | true =>
  simp only [Bool.and_eq_true, decide_eq_true_eq] at h
  rw [sel_true, p_i_IsWord hN, bnd_mk, p_i_SealAnswer hN, bnd_mk, getI_D h.1 h.2, bnd_mk]
  cases isWord w <;> rfl
theorem p_s_ChecksAnswer {N : Nat} (hN : 67108864 < N) (seals : List Int) (hl : seals.length ≤ 1048576) (salt slot : Int) (w : List UInt8) : s_ChecksAnswer N seals salt slot w = some (checksV seals salt slot w) := by
 unfold s_ChecksAnswer checksV
 have e : decide (0 ≤ slot ∧ slot ≤ w64 ((seals.length : Int) - 1)) = (decide (0 ≤ slot) && decide (slot < (seals.length : Int))) := by
  rw [w64_in (by omega) (by omega), Bool.eq_iff_iff]; simp only [Bool.and_eq_true, decide_eq_true_eq]; omega
 rw [p_s_l1In, e, bnd_mk]
 cases h : decide (0 ≤ slot) && decide (slot < (seals.length : Int)) with
 | false => rfl
 | true =>
  simp only [Bool.and_eq_true, decide_eq_true_eq] at h
  rw [sel_true, p_s_IsWord hN, bnd_mk, p_s_SealAnswer hN, bnd_mk, getI_D h.1 h.2, bnd_mk]
  cases isWord w <;> rfl
/-- the indices where something holds -/
def atI {α : Type} (p : Nat → α → Bool) : List α → Nat → List Int → List Int
 | [], _, a => a
 | x :: r, i, a => atI p r (i + 1) (if p i x = true then a ++ [(i : Int)] else a)
theorem loop_idxI {α γ : Type} {l : List α} {step : List Int × Int → Option (Sum (List Int × Int) γ)} (p : Nat → α → Bool) {fi : List Int → γ} {N : Nat}
  (hs : ∀ i x a, l[i]? = some x → i < l.length → a.length ≤ i → step (a, (i : Int)) = some (.inl (if p i x = true then a ++ [(i : Int)] else a, w64 ((i : Int) + 1)))) (he : ∀ a, step (a, (l.length : Int)) = some (.inr (fi a)))
  (hl : l.length ≤ 4611686018427387904) (hN : l.length < N) : loopN step N ([], 0) = some (fi (atI p l 0 [])) := by
 have := loopN_list (N := N) (step := step) (fun i (a : Nat × List Int) => (a.2, (i : Int))) l (fun r a => fi (atI p r a.1 a.2)) (fun i a => a.1 = i ∧ a.2.length ≤ i) (a := (0, [])) ⟨rfl, Nat.le_refl _⟩
  (fun a _ => by rw [he]; rfl)
  (fun i a x r ha hx hr hi => by
   obtain ⟨h1, h2⟩ := ha
   refine .inl ⟨(i + 1, if p i x = true then a.2 ++ [(i : Int)] else a.2), ?_, ⟨rfl, len_if h2⟩, ?_⟩
   ·rw [hs i x a.2 hx hi h2, w64_nat (by omega)]
   ·simp only [atI, h1]) hN
 simpa using this
def rights (g : Gx.Grid) (f : List UInt8) (seals : List Int) (salt : Int) : List Int := atI (fun i w => checksV seals salt (i : Int) w) (patterns g f) 0 []
theorem p_i_RightSlots {N : Nat} (hN : 67108864 < N) (g : Gx.Grid) (f : List UInt8) (seals : List Int) (salt : Int) : i_RightSlots N g f seals salt = some (rights g f seals salt) := by
 have h72 := pats_len g f
 unfold i_RightSlots
 rw [p_i_patterns hN, bnd_mk, loop_idxI (N := N) (l := patterns g f) (step := i_RightSlots_L1 N (patterns g f) seals salt) (fun i w => checksV seals salt (i : Int) w) (fi := fun a => a) (fun i x a hx hi ha => by
  unfold i_RightSlots_L1
  simp only
  rw [sel_pos (by omega), getI_nat hx, bnd_mk, p_i_ChecksAnswer hN, bnd_mk]
  cases checksV seals salt (i : Int) x
  ·rfl
  ·rw [sel_true, chk_pos (by simp; omega), if_pos rfl]) (fun a => by unfold i_RightSlots_L1; rw [sel_neg (by simp only; omega)]) (by omega) (by omega)]
 rfl
theorem p_s_RightSlots {N : Nat} (hN : 67108864 < N) (g : Gx.Grid) (hg : g.mCells.length ≤ 1048576) (f : List UInt8) (seals : List Int) (hl : seals.length ≤ 1048576) (salt : Int) : s_RightSlots N g f seals salt = some (rights g f seals salt) := by
 have h72 := slots_len g
 unfold s_RightSlots
 rw [p_s_SlotsOf hN g hg, bnd_mk]
 cases hf : isFill g f with
 | false =>
  have hp : patterns g f = [] := by unfold patterns; rw [hf]; rfl
  have e : s_RightSlots_L1 N (slots g) g f seals salt ([], 0) = some (.inr []) := by
   unfold s_RightSlots_L1
   simp only
   by_cases h0 : (0 : Int) < ((slots g).length : Int)
   ·rw [sel_pos h0, p_s_IsFill hN, hf]; rfl
   ·rw [sel_neg h0]
  obtain ⟨M, rfl⟩ : ∃ k, N = k + 1 := ⟨N - 1, by omega⟩
  simp only [loopN, e, rights, hp, atI, bnd_mk]
 | true =>
  have hpl := patterns_len hf
  rw [loop_idxI (N := N) (l := patterns g f) (step := s_RightSlots_L1 N (slots g) g f seals salt) (fun i w => checksV seals salt (i : Int) w) (fi := fun a => a) (fun i x a hx hi ha => by
   have ep : patAt g f (i : Int) = x := by unfold patAt; rw [if_pos (by omega), Int.toNat_natCast, List.getD_eq_getElem?_getD, hx]; rfl
   unfold s_RightSlots_L1
   simp only
   rw [sel_pos (by omega), p_s_IsFill hN, hf, bnd_mk, sel_true, p_s_SlotPattern hN g f hg, bnd_mk, ep, p_s_ChecksAnswer hN seals hl, bnd_mk]
   cases checksV seals salt (i : Int) x
   ·rfl
   ·rw [sel_true, chk_pos (by simp; omega), if_pos rfl]) (fun a => by unfold s_RightSlots_L1; rw [sel_neg (by simp only; omega)]) (by omega) (by omega)]
  rfl
def isFull (g : Gx.Grid) (f : List UInt8) : Bool := isFill g f && !isOpen f
theorem fill_len {g : Gx.Grid} {f : List UInt8} (h : isFill g f = true) : f.length ≤ 36 := by
 obtain ⟨G, hl⟩ := isFill_ok h
 obtain ⟨R, C, D⟩ := G.dims
 have := D.len
 have := Nat.mul_le_mul D.r2.2 D.c2.2
 omega
theorem p_i_IsFull {N : Nat} (hN : 67108864 < N) (g : Gx.Grid) (f : List UInt8) : i_IsFull N g f = some (isFull g f) := by
 unfold i_IsFull isFull
 rw [p_i_IsFill hN, bnd_mk]
 cases h : isFill g f with
 | false => rfl
 | true => have := fill_len h; rw [sel_true, p_i_openIn f (by omega) (by omega), bnd_mk, openN_zero]; rfl
theorem p_s_IsFull {N : Nat} (hN : 67108864 < N) (g : Gx.Grid) (f : List UInt8) : s_IsFull N g f = some (isFull g f) := by
 unfold s_IsFull isFull
 rw [p_s_IsFill hN, bnd_mk]
 cases h : isFill g f with
 | false => rfl
 | true => have := fill_len h; rw [sel_true, p_s_l11Open f (by omega) (by omega), bnd_mk]; rfl
structure PuzFine (p : Gx.Puzzle) : Prop where
 grid : isGrid p.mGrid = true
 clues : p.mClues.length = (slots p.mGrid).length
 seals : p.mSeals.length = (slots p.mGrid).length
 clue : ∀ c ∈ p.mClues, isClue c = true
def puzB (N : Nat) (p : Gx.Puzzle) : Bool := (s_IsPuzzle N p).getD false
theorem puzB_ok {N : Nat} (hN : 67108864 < N) {p : Gx.Puzzle} (hp : PuzSmall p) : i_IsPuzzle N p = some (puzB N p) ∧ s_IsPuzzle N p = some (puzB N p) ∧ (puzB N p = true → PuzFine p) := by
 obtain ⟨b, q1, q2, q3⟩ := p_IsPuzzle hN hp
 unfold puzB
 rw [q1, q2]
 refine ⟨rfl, rfl, fun h => ?_⟩
 obtain ⟨a1, a2, a3, a4⟩ := q3 h
 exact ⟨a1, a2, a3, a4⟩
def solvedB (N : Nat) (p : Gx.Puzzle) (f : List UInt8) : Bool := puzB N p && (isFull p.mGrid f && (((rights p.mGrid f p.mSeals p.mSalt).length : Int) == (p.mClues.length : Int)))
theorem p_i_IsSolved {N : Nat} (hN : 67108864 < N) {p : Gx.Puzzle} (hp : PuzSmall p) (f : List UInt8) : i_IsSolved N p f = some (solvedB N p f) := by
 obtain ⟨q1, _, q3⟩ := puzB_ok hN hp
 unfold i_IsSolved solvedB
 rw [q1, bnd_mk]
 cases h : puzB N p with
 | false => rfl
 | true =>
  have := q3 h
  rw [sel_true, p_i_IsFull hN, bnd_mk, p_i_RightSlots hN, bnd_mk, this.seals, this.clues]
  cases isFull p.mGrid f <;> rfl
theorem p_s_IsSolved {N : Nat} (hN : 67108864 < N) {p : Gx.Puzzle} (hp : PuzSmall p) (hl : p.mSeals.length ≤ 1048576) (f : List UInt8) : s_IsSolved N p f = some (solvedB N p f) := by
 obtain ⟨_, q2, q3⟩ := puzB_ok hN hp
 unfold s_IsSolved solvedB
 rw [q2, bnd_mk]
 cases h : puzB N p with
 | false => rfl
 | true =>
  rw [sel_true, p_s_IsFull hN, bnd_mk, p_s_RightSlots hN _ hp.cells _ _ hl, bnd_mk]
  cases isFull p.mGrid f <;> rfl
def issB (N : Nat) (x : Gx.Issue) : Bool := inR x.mNumber 1 999 && (solvedB N x.mPuzzle x.mFill && (decide (x.mOpen ≥ 0) && (decide (x.mOpen < x.mClose) && decide (x.mClose ≤ 1000))))
theorem p_i_IsIssue {N : Nat} (hN : 67108864 < N) {x : Gx.Issue} (hx : CpIss x) : i_IsIssue N x = some (issB N x) := by
 unfold i_IsIssue issB
 rw [p_i_inR, bnd_mk, p_i_IsSolved hN (puz_small hx), bnd_mk]
 cases inR x.mNumber 1 999 <;> cases solvedB N x.mPuzzle x.mFill <;> cases decide (x.mOpen ≥ 0) <;> cases decide (x.mOpen < x.mClose) <;> rfl
theorem p_s_IsIssue {N : Nat} (hN : 67108864 < N) {x : Gx.Issue} (hx : CpIss x) : s_IsIssue N x = some (issB N x) := by
 unfold s_IsIssue issB
 rw [p_s_inR, bnd_mk, p_s_IsSolved hN (puz_small hx) hx.seals, bnd_mk]
 cases inR x.mNumber 1 999 <;> cases solvedB N x.mPuzzle x.mFill <;> cases decide (x.mOpen ≥ 0) <;> cases decide (x.mOpen < x.mClose) <;> rfl
end Lw
end Go.Proofs
