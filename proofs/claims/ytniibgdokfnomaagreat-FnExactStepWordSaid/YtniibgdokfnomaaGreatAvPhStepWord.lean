/- PRINTED BY plain.py (mine): what the law's own helpers compute. -/
import Derived.Test.YtniibgdokfnomaaGreatAvPl
import Derived.Test.YtniibgdokfnomaaGreatAvShStepWord
namespace Go.Proofs
open Go Go.Av
set_option maxRecDepth 100000
set_option maxHeartbeats 40000000
set_option linter.unusedVariables false
set_option linter.unusedSimpArgs false
namespace Lw
/-! ### marking and finding again -/
def markL {α : Type} (f : Nat → α → α) (c : α → Nat) : List α → Nat → List α
 | [], _ => []
 | x :: r, k => f k x :: markL f c r (k + c x)
theorem markL_len {α : Type} (f : Nat → α → α) (c : α → Nat) : ∀ (l : List α) (k : Nat), (markL f c l k).length = l.length
 | [], _ => rfl
 | x :: r, k => by simp only [markL, List.length_cons, markL_len f c r]
theorem mark_loop {α σ β : Type} (mk : List α → Int → Int → σ) {step : σ → Option (Sum σ β)} (f : Nat → α → α) (c : α → Nat) {fi : List α → Int → β} {N : Nat} (B : Nat) (l : List α)
  (hs : ∀ (a : List α) (i : Nat) (x : α) (k : Nat), a.length = l.length → a[i]? = some x → i < l.length → x ∈ l → k + c x ≤ B → step (mk a (k : Int) (i : Int)) = some (.inl (mk (a.set i (f k x)) ((k + c x : Nat) : Int) ((i + 1 : Nat) : Int))))
  (he : ∀ (a : List α) (k : Int), a.length = l.length → step (mk a k (l.length : Int)) = some (.inr (fi a k)))
  (k0 : Nat) (hB : k0 + (l.map c).sum ≤ B) (hN : l.length < N) : loopN step N (mk l (k0 : Int) 0) = some (fi (markL f c l k0) ((k0 + (l.map c).sum : Nat) : Int)) := by
 have key : ∀ (r pre : List α) (k F : Nat), pre.length + r.length = l.length → (∀ x ∈ r, x ∈ l) → k + (r.map c).sum ≤ B → r.length < F →
   loopN step F (mk (pre ++ r) (k : Int) (pre.length : Int)) = some (fi (pre ++ markL f c r k) ((k + (r.map c).sum : Nat) : Int)) := by
  intro r
  induction r with
  | nil =>
   intro pre k F h1 _ _ hF
   obtain ⟨F, rfl⟩ : ∃ n, F = n + 1 := ⟨F - 1, by omega⟩
   have e : pre.length = l.length := by simpa using h1
   simp only [loopN, List.append_nil, markL, List.map_nil, List.sum_nil, Nat.add_zero]
   rw [e, he pre k e]
  | cons x r ih =>
   intro pre k F h1 h2 h3 hF
   obtain ⟨F, rfl⟩ : ∃ n, F = n + 1 := ⟨F - 1, by omega⟩
   simp only [List.length_cons] at h1 hF
   simp only [List.map_cons, List.sum_cons] at h3 ⊢
   have hx : (pre ++ x :: r)[pre.length]? = some x := by simp
   simp only [loopN]
   rw [hs (pre ++ x :: r) pre.length x k (by simp; omega) hx (by omega) (h2 x (by simp)) (by omega)]
   have es : (pre ++ x :: r).set pre.length (f k x) = (pre ++ [f k x]) ++ r := by
    rw [List.set_append_right _ _ (by omega)]; simp
   have el : ((pre.length + 1 : Nat) : Int) = ((pre ++ [f k x]).length : Int) := by simp
   simp only
   rw [es, el, ih (pre ++ [f k x]) (k + c x) F (by simp; omega) (fun y hy => h2 y (by simp [hy])) (by omega) (by omega)]
   simp only [markL, List.append_assoc, List.singleton_append, Nat.add_assoc]
 have := key l [] k0 N (by simp) (fun x h => h) hB hN
 simpa using this
theorem held_loop {α σ β : Type} (mk : Int → Int → σ) {step : σ → Option (Sum σ β)} (f : Nat → α → α) (c : α → Nat) {fi : Int → β} {N : Nat} (B : Nat) (l : List α) (k0 : Nat)
  (hs : ∀ (i : Nat) (x : α) (k : Nat), (markL f c l k0)[i]? = some (f k x) → i < l.length → x ∈ l → k0 ≤ k → k + c x ≤ B → step (mk (k : Int) (i : Int)) = some (.inl (mk ((k + c x : Nat) : Int) ((i + 1 : Nat) : Int))))
  (he : ∀ (k : Int), step (mk k (l.length : Int)) = some (.inr (fi k)))
  (hB : k0 + (l.map c).sum ≤ B) (hN : l.length < N) : loopN step N (mk (k0 : Int) 0) = some (fi ((k0 + (l.map c).sum : Nat) : Int)) := by
 have key : ∀ (r : List α) (pre : List α) (k F : Nat), markL f c l k0 = pre ++ markL f c r k → pre.length + r.length = l.length → (∀ x ∈ r, x ∈ l) → k0 ≤ k → k + (r.map c).sum ≤ B → r.length < F →
   loopN step F (mk (k : Int) (pre.length : Int)) = some (fi ((k + (r.map c).sum : Nat) : Int)) := by
  intro r
  induction r with
  | nil =>
   intro pre k F _ h1 _ _ _ hF
   obtain ⟨F, rfl⟩ : ∃ n, F = n + 1 := ⟨F - 1, by omega⟩
   have e : pre.length = l.length := by simpa using h1
   simp only [loopN, List.map_nil, List.sum_nil, Nat.add_zero]
   rw [e, he k]
  | cons x r ih =>
   intro pre k F h0 h1 h2 hk h3 hF
   obtain ⟨F, rfl⟩ : ∃ n, F = n + 1 := ⟨F - 1, by omega⟩
   simp only [List.length_cons] at h1 hF
   simp only [List.map_cons, List.sum_cons] at h3 ⊢
   simp only [markL] at h0
   have hx : (markL f c l k0)[pre.length]? = some (f k x) := by rw [h0]; simp
   simp only [loopN]
   rw [hs pre.length x k hx (by omega) (h2 x (by simp)) hk (by omega)]
   have el : ((pre.length + 1 : Nat) : Int) = ((pre ++ [f k x]).length : Int) := by simp
   simp only
   rw [el, ih (pre ++ [f k x]) (k + c x) F (by rw [h0]; simp) (by simp; omega) (fun y hy => h2 y (by simp [hy])) (by omega) (by omega) (by omega), Nat.add_assoc]
 have := key l [] k0 N (by simp) (by simp) (fun x h => h) (Nat.le_refl _) hB hN
 simpa using this
theorem getI_set {α : Type} {l : List α} {i : Nat} {x : α} (h : i < l.length) : getI (l.set i x) (i : Int) = some x := getI_nat (by simp [h])

theorem len_sum {α : Type} {c : α → Nat} (h : ∀ x, 1 ≤ c x) : ∀ l : List α, l.length ≤ (l.map c).sum
 | [] => Nat.le_refl _
 | x :: r => by have := len_sum h r; have := h x; simp only [List.length_cons, List.map_cons, List.sum_cons]; omega
theorem sum16 {α : Type} {c s : α → Nat} (h : ∀ x, c x ≤ 16 * (s x + 1)) : ∀ l : List α, (l.map c).sum ≤ 16 * (l.length + (l.map s).sum)
 | [] => Nat.zero_le _
 | x :: r => by have := sum16 h r; have := h x; simp only [List.length_cons, List.map_cons, List.sum_cons]; omega
theorem sum16c {α : Type} {c : α → Nat} (h : ∀ x, c x ≤ 16) : ∀ l : List α, (l.map c).sum ≤ 16 * l.length
 | [] => Nat.zero_le _
 | x :: r => by have := sum16c h r; have := h x; simp only [List.length_cons, List.map_cons, List.sum_cons]; omega
def mkT (N k : Nat) : List UInt8 := (l_markText N (k : Int)).getD []
theorem p_markText {N : Nat} (hN : 67108864 < N) {k : Nat} (h : k ≤ 67108864) : l_markText N (k : Int) = some (mkT N k) := by
 have key : ∀ (F k : Nat) (out : List UInt8), k < F → k + out.length ≤ 134217728 → ∃ t, loopN (l_markText_L1 N) F ((k : Int), out) = some t ∧ t.length ≤ 134217728 := by
  intro F
  induction F with
  | zero => intro k out h; omega
  | succ F ih =>
   intro k out hk hl
   by_cases hz : k = 0
   ·subst hz
    exact ⟨out, rfl, by omega⟩
   ·have e : Int.tdiv (k : Int) 10 = ((k / 10 : Nat) : Int) := (Int.ofNat_tdiv k 10).symm
    obtain ⟨t, h1, h2⟩ := ih (k / 10) ([UInt8.ofInt (IntKind.u8.wrap (w64 (48 + (Int.tmod (k : Int) 10))))] ++ out) (by omega) (by simp only [List.length_append, List.length_cons, List.length_nil]; omega)
    refine ⟨t, ?_, h2⟩
    simp only [loopN]
    have hs : l_markText_L1 N ((k : Int), out) = some (.inl (((k / 10 : Nat) : Int), [UInt8.ofInt (IntKind.u8.wrap (w64 (48 + (Int.tmod (k : Int) 10))))] ++ out)) := by
     unfold l_markText_L1
     rw [sel_pos (by simp only; omega), chk_pos (by decide), chk_pos (by simp only [List.length_cons, List.length_nil]; omega), chk_pos (by decide)]
     simp only [e]
     rw [w64_in (by omega) (by omega)]
    rw [hs]
    exact h1
 suffices hx : ∃ t, l_markText N (k : Int) = some t by
  obtain ⟨t, ht⟩ := hx
  rw [mkT, ht]; rfl
 unfold l_markText
 by_cases hz : k = 0
 ·subst hz; exact ⟨_, rfl⟩
 ·obtain ⟨t, h1, h2⟩ := key N k [] (by omega) (by simp; omega)
  refine ⟨[109] ++ t, ?_⟩
  rw [sel_neg (by omega), h1]
  simp only [bnd_mk]
  rw [chk_pos (by simp only [List.length_cons, List.length_nil]; omega)]
theorem p_szGrid {N : Nat} (hN : 67108864 < N) (x : Gx.Grid) (hok : x.ok) {left : Int} (h0 : 0 ≤ left) (h1 : left ≤ 1048576) : l_szGrid N x left = some (szF x.size left) := by
 unfold l_szGrid Gx.Grid.size
 unfold Gx.Grid.ok at hok
 obtain ⟨q0, q1, q2⟩ := hok
 exact sz_len h0 h1 q2

theorem p_toGrid {N : Nat} (hN : 67108864 < N) (x : Gx.Grid) (h : x.size ≤ 1048576) : l_toGrid N x = some x := by
 unfold l_toGrid
 all_goals rfl

theorem p_eqGrid {N : Nat} (hN : 67108864 < N) (x y : Gx.Grid) (h : x.size ≤ 4194304) : l_eqGrid N x y = some (decide (x = y)) := by
 unfold l_eqGrid
 unfold Gx.Grid.size at h
 refine eq_fld (fun h e => h (by rw [e])) (fun e0 => ?_)
 refine eq_fld (fun h e => h (by rw [e])) (fun e1 => ?_)
 refine eq_fld (fun h e => h (by rw [e])) (fun e2 => ?_)
 have : x = y := by cases x; cases y; simp_all
 rw [decide_eq_true this]

theorem p_szStep {N : Nat} (hN : 67108864 < N) (x : Gx.Step) (hok : x.ok) {left : Int} (h0 : 0 ≤ left) (h1 : left ≤ 1048576) : l_szStep N x left = some (szF x.size left) := by
 unfold l_szStep Gx.Step.size
 unfold Gx.Step.ok at hok
 obtain ⟨q0, q1, q2, q3⟩ := hok
 exact sz_len h0 h1 q1

theorem p_szStepS {N : Nat} (hN : 67108864 < N) (l : List (Gx.Step)) (hl : l.length ≤ 9223372036854775807) (hok : ∀ e ∈ l, e.ok) {left : Int} (h0 : 0 ≤ left) (h1 : left ≤ 1048576) : l_szStepS N l left = some (szF (l.length + (l.map (fun e : Gx.Step => e.size)).sum) left) := by
 unfold l_szStepS
 refine sz_seq2 h0 h1 hl fun d g e w => ?_
 rw [w]
 have f := szF_nn e g h1
 refine sz_loop (l := l) (N := N) (f := (fun e : Gx.Step => e.size)) (fun p => rfl) (fun x hx c c0 c1 => ?_) g f.1 (by omega) (by omega)
 rw [p_szStep hN x (hok x hx) c0 c1]
 exact sz_ok

theorem p_szClue {N : Nat} (hN : 67108864 < N) (x : Gx.Clue) (hok : x.ok) {left : Int} (h0 : 0 ≤ left) (h1 : left ≤ 1048576) : l_szClue N x left = some (szF x.size left) := by
 unfold l_szClue Gx.Clue.size
 unfold Gx.Clue.ok at hok
 obtain ⟨q0, q1, q2⟩ := hok
 (repeat rw [Nat.add_assoc])
 rw [p_szStepS hN x.mPlay q1 q2 h0 h1]
 exact sz_end

theorem p_szClueS {N : Nat} (hN : 67108864 < N) (l : List (Gx.Clue)) (hl : l.length ≤ 9223372036854775807) (hok : ∀ e ∈ l, e.ok) {left : Int} (h0 : 0 ≤ left) (h1 : left ≤ 1048576) : l_szClueS N l left = some (szF (l.length + (l.map (fun e : Gx.Clue => e.size)).sum) left) := by
 unfold l_szClueS
 refine sz_seq2 h0 h1 hl fun d g e w => ?_
 rw [w]
 have f := szF_nn e g h1
 refine sz_loop (l := l) (N := N) (f := (fun e : Gx.Clue => e.size)) (fun p => rfl) (fun x hx c c0 c1 => ?_) g f.1 (by omega) (by omega)
 rw [p_szClue hN x (hok x hx) c0 c1]
 exact sz_ok

theorem p_szDraft {N : Nat} (hN : 67108864 < N) (x : Gx.Draft) (hok : x.ok) {left : Int} (h0 : 0 ≤ left) (h1 : left ≤ 1048576) : l_szDraft N x left = some (szF x.size left) := by
 unfold l_szDraft Gx.Draft.size
 unfold Gx.Draft.ok at hok
 obtain ⟨q0, q1, q2, q3, q4⟩ := hok
 (repeat rw [Nat.add_assoc])
 rw [p_szGrid hN x.mGrid q0 h0 h1]
 refine sz_seq h0 fun d0 g0 e0 => ?_
 have f0 := (szF_nn e0 g0 h1).1
 refine sz_seq2 g0 f0 q1 fun d1 g1 e1 w1 => ?_
 rw [w1]
 have f1 := (szF_nn e1 g1 f0).1
 rw [p_szClueS hN x.mClues q2 q3 g1 f1]
 exact sz_end

theorem p_toStep {N : Nat} (hN : 67108864 < N) (x : Gx.Step) (h : x.size ≤ 1048576) : l_toStep N x = some x := by
 unfold l_toStep
 all_goals rfl

theorem p_toStepS {N : Nat} (hN : 67108864 < N) (l : List (Gx.Step)) (h : l.length + (l.map (fun e : Gx.Step => e.size)).sum ≤ 1048576) : l_toStepS N l = some l := by
 unfold l_toStepS
 rw [chk_pos ⟨by omega, by omega⟩, copy_loop (l := l) (N := N) (step := l_toStepS_L1 N l) (to := l_toStep N) (fun p => rfl) (fun x hx => p_toStep hN x (by have := mem_sum (fun e : Gx.Step => e.size) hx; (try dsimp only at this); omega)) (by omega) (by omega)]
 rfl

theorem p_toClue {N : Nat} (hN : 67108864 < N) (x : Gx.Clue) (h : x.size ≤ 1048576) : l_toClue N x = some x := by
 unfold l_toClue
 unfold Gx.Clue.size at h
 rw [p_toStepS hN x.mPlay (by omega), bnd_mk]
 all_goals rfl

theorem p_toClueS {N : Nat} (hN : 67108864 < N) (l : List (Gx.Clue)) (h : l.length + (l.map (fun e : Gx.Clue => e.size)).sum ≤ 1048576) : l_toClueS N l = some l := by
 unfold l_toClueS
 rw [chk_pos ⟨by omega, by omega⟩, copy_loop (l := l) (N := N) (step := l_toClueS_L1 N l) (to := l_toClue N) (fun p => rfl) (fun x hx => p_toClue hN x (by have := mem_sum (fun e : Gx.Clue => e.size) hx; (try dsimp only at this); omega)) (by omega) (by omega)]
 rfl

theorem p_toDraft {N : Nat} (hN : 67108864 < N) (x : Gx.Draft) (h : x.size ≤ 1048576) : l_toDraft N x = some x := by
 unfold l_toDraft
 unfold Gx.Draft.size at h
 rw [p_toGrid hN x.mGrid (by omega), bnd_mk]
 rw [p_toClueS hN x.mClues (by omega), bnd_mk]
 all_goals rfl

theorem p_eqStep {N : Nat} (hN : 67108864 < N) (x y : Gx.Step) (h : x.size ≤ 4194304) : l_eqStep N x y = some (decide (x = y)) := by
 unfold l_eqStep
 unfold Gx.Step.size at h
 refine eq_fld (fun h e => h (by rw [e])) (fun e0 => ?_)
 refine eq_fld (fun h e => h (by rw [e])) (fun e1 => ?_)
 refine eq_fld (fun h e => h (by rw [e])) (fun e2 => ?_)
 refine eq_fld (fun h e => h (by rw [e])) (fun e3 => ?_)
 have : x = y := by cases x; cases y; simp_all
 rw [decide_eq_true this]

theorem p_eqStepS {N : Nat} (hN : 67108864 < N) (l m : List (Gx.Step)) (h : l.length + (l.map (fun e : Gx.Step => e.size)).sum ≤ 4194304) : l_eqStepS N l m = some (decide (l = m)) := by
 unfold l_eqStepS
 refine eq_fld (fun h e => h (by rw [e])) (fun e => ?_)
 exact eq_loop (eq := fun x y => l_eqStep N x y) (fun p => rfl) (fun x hx y => p_eqStep hN x y (by have := mem_sum (fun e : Gx.Step => e.size) hx; (try dsimp only at this); omega)) (by omega) (by omega) (by omega)

theorem p_eqClue {N : Nat} (hN : 67108864 < N) (x y : Gx.Clue) (h : x.size ≤ 4194304) : l_eqClue N x y = some (decide (x = y)) := by
 unfold l_eqClue
 unfold Gx.Clue.size at h
 refine eq_fld (fun h e => h (by rw [e])) (fun e0 => ?_)
 rw [p_eqStepS hN x.mPlay y.mPlay (by omega)]
 refine eq_sub (fun h e => h (by rw [e])) (fun e1 => ?_)
 have : x = y := by cases x; cases y; simp_all
 rw [decide_eq_true this]

theorem p_eqClueS {N : Nat} (hN : 67108864 < N) (l m : List (Gx.Clue)) (h : l.length + (l.map (fun e : Gx.Clue => e.size)).sum ≤ 4194304) : l_eqClueS N l m = some (decide (l = m)) := by
 unfold l_eqClueS
 refine eq_fld (fun h e => h (by rw [e])) (fun e => ?_)
 exact eq_loop (eq := fun x y => l_eqClue N x y) (fun p => rfl) (fun x hx y => p_eqClue hN x y (by have := mem_sum (fun e : Gx.Clue => e.size) hx; (try dsimp only at this); omega)) (by omega) (by omega) (by omega)

theorem p_eqDraft {N : Nat} (hN : 67108864 < N) (x y : Gx.Draft) (h : x.size ≤ 4194304) : l_eqDraft N x y = some (decide (x = y)) := by
 unfold l_eqDraft
 unfold Gx.Draft.size at h
 rw [p_eqGrid hN x.mGrid y.mGrid (by omega)]
 refine eq_sub (fun h e => h (by rw [e])) (fun e0 => ?_)
 refine eq_fld (fun h e => h (by rw [e])) (fun e1 => ?_)
 rw [p_eqClueS hN x.mClues y.mClues (by omega)]
 refine eq_sub (fun h e => h (by rw [e])) (fun e2 => ?_)
 refine eq_fld (fun h e => h (by rw [e])) (fun e3 => ?_)
 have : x = y := by cases x; cases y; simp_all
 rw [decide_eq_true this]

theorem p_szListed {N : Nat} (hN : 67108864 < N) (x : Gx.Listed) (hok : x.ok) {left : Int} (h0 : 0 ≤ left) (h1 : left ≤ 1048576) : l_szListed N x left = some (szF x.size left) := by
 unfold l_szListed Gx.Listed.size
 unfold Gx.Listed.ok at hok
 obtain ⟨q0, q1, q2, q3⟩ := hok
 exact sz_len h0 h1 q0

theorem p_szListedS {N : Nat} (hN : 67108864 < N) (l : List (Gx.Listed)) (hl : l.length ≤ 9223372036854775807) (hok : ∀ e ∈ l, e.ok) {left : Int} (h0 : 0 ≤ left) (h1 : left ≤ 1048576) : l_szListedS N l left = some (szF (l.length + (l.map (fun e : Gx.Listed => e.size)).sum) left) := by
 unfold l_szListedS
 refine sz_seq2 h0 h1 hl fun d g e w => ?_
 rw [w]
 have f := szF_nn e g h1
 refine sz_loop (l := l) (N := N) (f := (fun e : Gx.Listed => e.size)) (fun p => rfl) (fun x hx c c0 c1 => ?_) g f.1 (by omega) (by omega)
 rw [p_szListed hN x (hok x hx) c0 c1]
 exact sz_ok

theorem p_szMeaning {N : Nat} (hN : 67108864 < N) (x : Gx.Meaning) (hok : x.ok) {left : Int} (h0 : 0 ≤ left) (h1 : left ≤ 1048576) : l_szMeaning N x left = some (szF x.size left) := by
 unfold l_szMeaning Gx.Meaning.size
 unfold Gx.Meaning.ok at hok
 obtain ⟨q0, q1⟩ := hok
 exact sz_len h0 h1 q0

theorem p_szMeaningS {N : Nat} (hN : 67108864 < N) (l : List (Gx.Meaning)) (hl : l.length ≤ 9223372036854775807) (hok : ∀ e ∈ l, e.ok) {left : Int} (h0 : 0 ≤ left) (h1 : left ≤ 1048576) : l_szMeaningS N l left = some (szF (l.length + (l.map (fun e : Gx.Meaning => e.size)).sum) left) := by
 unfold l_szMeaningS
 refine sz_seq2 h0 h1 hl fun d g e w => ?_
 rw [w]
 have f := szF_nn e g h1
 refine sz_loop (l := l) (N := N) (f := (fun e : Gx.Meaning => e.size)) (fun p => rfl) (fun x hx c c0 c1 => ?_) g f.1 (by omega) (by omega)
 rw [p_szMeaning hN x (hok x hx) c0 c1]
 exact sz_ok

theorem p_szIntS {N : Nat} (hN : 67108864 < N) (l : List (Int)) (hl : l.length ≤ 9223372036854775807) (hok : ∀ e ∈ l, Gx.inR e) {left : Int} (h0 : 0 ≤ left) (h1 : left ≤ 1048576) : l_szIntS N l left = some (szF (l.length) left) := by
 unfold l_szIntS
 exact sz_len h0 h1 hl

theorem p_szPuzzle {N : Nat} (hN : 67108864 < N) (x : Gx.Puzzle) (hok : x.ok) {left : Int} (h0 : 0 ≤ left) (h1 : left ≤ 1048576) : l_szPuzzle N x left = some (szF x.size left) := by
 unfold l_szPuzzle Gx.Puzzle.size
 unfold Gx.Puzzle.ok at hok
 obtain ⟨q0, q1, q2, q3, q4, q5⟩ := hok
 (repeat rw [Nat.add_assoc])
 rw [p_szGrid hN x.mGrid q0 h0 h1]
 refine sz_seq h0 fun d0 g0 e0 => ?_
 have f0 := (szF_nn e0 g0 h1).1
 rw [← Nat.add_assoc]
 rw [p_szClueS hN x.mClues q1 q2 g0 f0]
 refine sz_seq g0 fun d1 g1 e1 => ?_
 have f1 := (szF_nn e1 g1 f0).1
 rw [p_szIntS hN x.mSeals q3 q4 g1 f1]
 exact sz_end

theorem p_szIssue {N : Nat} (hN : 67108864 < N) (x : Gx.Issue) (hok : x.ok) {left : Int} (h0 : 0 ≤ left) (h1 : left ≤ 1048576) : l_szIssue N x left = some (szF x.size left) := by
 unfold l_szIssue Gx.Issue.size
 unfold Gx.Issue.ok at hok
 obtain ⟨q0, q1, q2, q3, q4⟩ := hok
 (repeat rw [Nat.add_assoc])
 rw [p_szPuzzle hN x.mPuzzle q1 h0 h1]
 refine sz_seq h0 fun d0 g0 e0 => ?_
 have f0 := (szF_nn e0 g0 h1).1
 exact sz_len g0 f0 q2

theorem p_szIssueS {N : Nat} (hN : 67108864 < N) (l : List (Gx.Issue)) (hl : l.length ≤ 9223372036854775807) (hok : ∀ e ∈ l, e.ok) {left : Int} (h0 : 0 ≤ left) (h1 : left ≤ 1048576) : l_szIssueS N l left = some (szF (l.length + (l.map (fun e : Gx.Issue => e.size)).sum) left) := by
 unfold l_szIssueS
 refine sz_seq2 h0 h1 hl fun d g e w => ?_
 rw [w]
 have f := szF_nn e g h1
 refine sz_loop (l := l) (N := N) (f := (fun e : Gx.Issue => e.size)) (fun p => rfl) (fun x hx c c0 c1 => ?_) g f.1 (by omega) (by omega)
 rw [p_szIssue hN x (hok x hx) c0 c1]
 exact sz_ok

theorem p_szUsed {N : Nat} (hN : 67108864 < N) (x : Gx.Used) (hok : x.ok) {left : Int} (h0 : 0 ≤ left) (h1 : left ≤ 1048576) : l_szUsed N x left = some (szF x.size left) := by
 unfold l_szUsed Gx.Used.size
 unfold Gx.Used.ok at hok
 obtain ⟨q0, q1⟩ := hok
 exact sz_len h0 h1 q0

theorem p_szUsedS {N : Nat} (hN : 67108864 < N) (l : List (Gx.Used)) (hl : l.length ≤ 9223372036854775807) (hok : ∀ e ∈ l, e.ok) {left : Int} (h0 : 0 ≤ left) (h1 : left ≤ 1048576) : l_szUsedS N l left = some (szF (l.length + (l.map (fun e : Gx.Used => e.size)).sum) left) := by
 unfold l_szUsedS
 refine sz_seq2 h0 h1 hl fun d g e w => ?_
 rw [w]
 have f := szF_nn e g h1
 refine sz_loop (l := l) (N := N) (f := (fun e : Gx.Used => e.size)) (fun p => rfl) (fun x hx c c0 c1 => ?_) g f.1 (by omega) (by omega)
 rw [p_szUsed hN x (hok x hx) c0 c1]
 exact sz_ok

theorem p_szCorrection {N : Nat} (hN : 67108864 < N) (x : Gx.Correction) (hok : x.ok) {left : Int} (h0 : 0 ≤ left) (h1 : left ≤ 1048576) : l_szCorrection N x left = some (szF x.size left) := by
 unfold l_szCorrection Gx.Correction.size
 unfold Gx.Correction.ok at hok
 obtain ⟨q0, q1, q2, q3⟩ := hok
 rw [p_szClue hN x.mClue q2 h0 h1]
 exact sz_end

theorem p_szCorrectionS {N : Nat} (hN : 67108864 < N) (l : List (Gx.Correction)) (hl : l.length ≤ 9223372036854775807) (hok : ∀ e ∈ l, e.ok) {left : Int} (h0 : 0 ≤ left) (h1 : left ≤ 1048576) : l_szCorrectionS N l left = some (szF (l.length + (l.map (fun e : Gx.Correction => e.size)).sum) left) := by
 unfold l_szCorrectionS
 refine sz_seq2 h0 h1 hl fun d g e w => ?_
 rw [w]
 have f := szF_nn e g h1
 refine sz_loop (l := l) (N := N) (f := (fun e : Gx.Correction => e.size)) (fun p => rfl) (fun x hx c c0 c1 => ?_) g f.1 (by omega) (by omega)
 rw [p_szCorrection hN x (hok x hx) c0 c1]
 exact sz_ok

theorem p_szEntry {N : Nat} (hN : 67108864 < N) (x : Gx.Entry) (hok : x.ok) {left : Int} (h0 : 0 ≤ left) (h1 : left ≤ 1048576) : l_szEntry N x left = some (szF x.size left) := by
 unfold l_szEntry Gx.Entry.size
 unfold Gx.Entry.ok at hok
 obtain ⟨q0, q1, q2, q3⟩ := hok
 exact sz_len h0 h1 q3

theorem p_szEntryS {N : Nat} (hN : 67108864 < N) (l : List (Gx.Entry)) (hl : l.length ≤ 9223372036854775807) (hok : ∀ e ∈ l, e.ok) {left : Int} (h0 : 0 ≤ left) (h1 : left ≤ 1048576) : l_szEntryS N l left = some (szF (l.length + (l.map (fun e : Gx.Entry => e.size)).sum) left) := by
 unfold l_szEntryS
 refine sz_seq2 h0 h1 hl fun d g e w => ?_
 rw [w]
 have f := szF_nn e g h1
 refine sz_loop (l := l) (N := N) (f := (fun e : Gx.Entry => e.size)) (fun p => rfl) (fun x hx c c0 c1 => ?_) g f.1 (by omega) (by omega)
 rw [p_szEntry hN x (hok x hx) c0 c1]
 exact sz_ok

theorem p_szHouse {N : Nat} (hN : 67108864 < N) (x : Gx.House) (hok : x.ok) {left : Int} (h0 : 0 ≤ left) (h1 : left ≤ 1048576) : l_szHouse N x left = some (szF x.size left) := by
 unfold l_szHouse Gx.House.size
 unfold Gx.House.ok at hok
 obtain ⟨q0, q1, q2, q3, q4, q5, q6, q7, q8, q9, q10, q11, q12, q13⟩ := hok
 (repeat rw [Nat.add_assoc])
 rw [← Nat.add_assoc]
 rw [p_szListedS hN x.mList q0 q1 h0 h1]
 refine sz_seq h0 fun d0 g0 e0 => ?_
 have f0 := (szF_nn e0 g0 h1).1
 rw [← Nat.add_assoc]
 rw [p_szMeaningS hN x.mDict q2 q3 g0 f0]
 refine sz_seq g0 fun d1 g1 e1 => ?_
 have f1 := (szF_nn e1 g1 f0).1
 rw [p_szDraft hN x.mDesk q4 g1 f1]
 refine sz_seq g1 fun d2 g2 e2 => ?_
 have f2 := (szF_nn e2 g2 f1).1
 rw [← Nat.add_assoc]
 rw [p_szIssueS hN x.mIssues q5 q6 g2 f2]
 refine sz_seq g2 fun d3 g3 e3 => ?_
 have f3 := (szF_nn e3 g3 f2).1
 rw [← Nat.add_assoc]
 rw [p_szUsedS hN x.mUses q7 q8 g3 f3]
 refine sz_seq g3 fun d4 g4 e4 => ?_
 have f4 := (szF_nn e4 g4 f3).1
 rw [← Nat.add_assoc]
 rw [p_szCorrectionS hN x.mCorrections q9 q10 g4 f4]
 refine sz_seq g4 fun d5 g5 e5 => ?_
 have f5 := (szF_nn e5 g5 f4).1
 rw [p_szEntryS hN x.mEntries q11 q12 g5 f5]
 exact sz_end

theorem p_toListed {N : Nat} (hN : 67108864 < N) (x : Gx.Listed) (h : x.size ≤ 1048576) : l_toListed N x = some x := by
 unfold l_toListed
 all_goals rfl

theorem p_toListedS {N : Nat} (hN : 67108864 < N) (l : List (Gx.Listed)) (h : l.length + (l.map (fun e : Gx.Listed => e.size)).sum ≤ 1048576) : l_toListedS N l = some l := by
 unfold l_toListedS
 rw [chk_pos ⟨by omega, by omega⟩, copy_loop (l := l) (N := N) (step := l_toListedS_L1 N l) (to := l_toListed N) (fun p => rfl) (fun x hx => p_toListed hN x (by have := mem_sum (fun e : Gx.Listed => e.size) hx; (try dsimp only at this); omega)) (by omega) (by omega)]
 rfl

theorem p_toMeaning {N : Nat} (hN : 67108864 < N) (x : Gx.Meaning) (h : x.size ≤ 1048576) : l_toMeaning N x = some x := by
 unfold l_toMeaning
 all_goals rfl

theorem p_toMeaningS {N : Nat} (hN : 67108864 < N) (l : List (Gx.Meaning)) (h : l.length + (l.map (fun e : Gx.Meaning => e.size)).sum ≤ 1048576) : l_toMeaningS N l = some l := by
 unfold l_toMeaningS
 rw [chk_pos ⟨by omega, by omega⟩, copy_loop (l := l) (N := N) (step := l_toMeaningS_L1 N l) (to := l_toMeaning N) (fun p => rfl) (fun x hx => p_toMeaning hN x (by have := mem_sum (fun e : Gx.Meaning => e.size) hx; (try dsimp only at this); omega)) (by omega) (by omega)]
 rfl

theorem p_toIntS {N : Nat} (hN : 67108864 < N) (l : List (Int)) (h : l.length ≤ 1048576) : l_toIntS N l = some l := by
 unfold l_toIntS
 rw [chk_pos ⟨by omega, by omega⟩, copy_loop (l := l) (N := N) (step := l_toIntS_L1 N l) (to := some) (fun p => rfl) (fun x hx => rfl) (by omega) (by omega)]
 rfl

theorem p_toPuzzle {N : Nat} (hN : 67108864 < N) (x : Gx.Puzzle) (h : x.size ≤ 1048576) : l_toPuzzle N x = some x := by
 unfold l_toPuzzle
 unfold Gx.Puzzle.size at h
 rw [p_toGrid hN x.mGrid (by omega), bnd_mk]
 rw [p_toClueS hN x.mClues (by omega), bnd_mk]
 rw [p_toIntS hN x.mSeals (by omega), bnd_mk]
 all_goals rfl

theorem p_toIssue {N : Nat} (hN : 67108864 < N) (x : Gx.Issue) (h : x.size ≤ 1048576) : l_toIssue N x = some x := by
 unfold l_toIssue
 unfold Gx.Issue.size at h
 rw [p_toPuzzle hN x.mPuzzle (by omega), bnd_mk]
 all_goals rfl

theorem p_toIssueS {N : Nat} (hN : 67108864 < N) (l : List (Gx.Issue)) (h : l.length + (l.map (fun e : Gx.Issue => e.size)).sum ≤ 1048576) : l_toIssueS N l = some l := by
 unfold l_toIssueS
 rw [chk_pos ⟨by omega, by omega⟩, copy_loop (l := l) (N := N) (step := l_toIssueS_L1 N l) (to := l_toIssue N) (fun p => rfl) (fun x hx => p_toIssue hN x (by have := mem_sum (fun e : Gx.Issue => e.size) hx; (try dsimp only at this); omega)) (by omega) (by omega)]
 rfl

theorem p_toUsed {N : Nat} (hN : 67108864 < N) (x : Gx.Used) (h : x.size ≤ 1048576) : l_toUsed N x = some x := by
 unfold l_toUsed
 all_goals rfl

theorem p_toUsedS {N : Nat} (hN : 67108864 < N) (l : List (Gx.Used)) (h : l.length + (l.map (fun e : Gx.Used => e.size)).sum ≤ 1048576) : l_toUsedS N l = some l := by
 unfold l_toUsedS
 rw [chk_pos ⟨by omega, by omega⟩, copy_loop (l := l) (N := N) (step := l_toUsedS_L1 N l) (to := l_toUsed N) (fun p => rfl) (fun x hx => p_toUsed hN x (by have := mem_sum (fun e : Gx.Used => e.size) hx; (try dsimp only at this); omega)) (by omega) (by omega)]
 rfl

theorem p_toCorrection {N : Nat} (hN : 67108864 < N) (x : Gx.Correction) (h : x.size ≤ 1048576) : l_toCorrection N x = some x := by
 unfold l_toCorrection
 unfold Gx.Correction.size at h
 rw [p_toClue hN x.mClue (by omega), bnd_mk]
 all_goals rfl

theorem p_toCorrectionS {N : Nat} (hN : 67108864 < N) (l : List (Gx.Correction)) (h : l.length + (l.map (fun e : Gx.Correction => e.size)).sum ≤ 1048576) : l_toCorrectionS N l = some l := by
 unfold l_toCorrectionS
 rw [chk_pos ⟨by omega, by omega⟩, copy_loop (l := l) (N := N) (step := l_toCorrectionS_L1 N l) (to := l_toCorrection N) (fun p => rfl) (fun x hx => p_toCorrection hN x (by have := mem_sum (fun e : Gx.Correction => e.size) hx; (try dsimp only at this); omega)) (by omega) (by omega)]
 rfl

theorem p_toEntry {N : Nat} (hN : 67108864 < N) (x : Gx.Entry) (h : x.size ≤ 1048576) : l_toEntry N x = some x := by
 unfold l_toEntry
 all_goals rfl

theorem p_toEntryS {N : Nat} (hN : 67108864 < N) (l : List (Gx.Entry)) (h : l.length + (l.map (fun e : Gx.Entry => e.size)).sum ≤ 1048576) : l_toEntryS N l = some l := by
 unfold l_toEntryS
 rw [chk_pos ⟨by omega, by omega⟩, copy_loop (l := l) (N := N) (step := l_toEntryS_L1 N l) (to := l_toEntry N) (fun p => rfl) (fun x hx => p_toEntry hN x (by have := mem_sum (fun e : Gx.Entry => e.size) hx; (try dsimp only at this); omega)) (by omega) (by omega)]
 rfl

theorem p_toHouse {N : Nat} (hN : 67108864 < N) (x : Gx.House) (h : x.size ≤ 1048576) : l_toHouse N x = some x := by
 unfold l_toHouse
 unfold Gx.House.size at h
 rw [p_toListedS hN x.mList (by omega), bnd_mk]
 rw [p_toMeaningS hN x.mDict (by omega), bnd_mk]
 rw [p_toDraft hN x.mDesk (by omega), bnd_mk]
 rw [p_toIssueS hN x.mIssues (by omega), bnd_mk]
 rw [p_toUsedS hN x.mUses (by omega), bnd_mk]
 rw [p_toCorrectionS hN x.mCorrections (by omega), bnd_mk]
 rw [p_toEntryS hN x.mEntries (by omega), bnd_mk]
 all_goals rfl

theorem p_eqListed {N : Nat} (hN : 67108864 < N) (x y : Gx.Listed) (h : x.size ≤ 4194304) : l_eqListed N x y = some (decide (x = y)) := by
 unfold l_eqListed
 unfold Gx.Listed.size at h
 refine eq_fld (fun h e => h (by rw [e])) (fun e0 => ?_)
 refine eq_fld (fun h e => h (by rw [e])) (fun e1 => ?_)
 refine eq_fld (fun h e => h (by rw [e])) (fun e2 => ?_)
 refine eq_fld (fun h e => h (by rw [e])) (fun e3 => ?_)
 have : x = y := by cases x; cases y; simp_all
 rw [decide_eq_true this]

theorem p_eqListedS {N : Nat} (hN : 67108864 < N) (l m : List (Gx.Listed)) (h : l.length + (l.map (fun e : Gx.Listed => e.size)).sum ≤ 4194304) : l_eqListedS N l m = some (decide (l = m)) := by
 unfold l_eqListedS
 refine eq_fld (fun h e => h (by rw [e])) (fun e => ?_)
 exact eq_loop (eq := fun x y => l_eqListed N x y) (fun p => rfl) (fun x hx y => p_eqListed hN x y (by have := mem_sum (fun e : Gx.Listed => e.size) hx; (try dsimp only at this); omega)) (by omega) (by omega) (by omega)

theorem p_eqMeaning {N : Nat} (hN : 67108864 < N) (x y : Gx.Meaning) (h : x.size ≤ 4194304) : l_eqMeaning N x y = some (decide (x = y)) := by
 unfold l_eqMeaning
 unfold Gx.Meaning.size at h
 refine eq_fld (fun h e => h (by rw [e])) (fun e0 => ?_)
 refine eq_fld (fun h e => h (by rw [e])) (fun e1 => ?_)
 have : x = y := by cases x; cases y; simp_all
 rw [decide_eq_true this]

theorem p_eqMeaningS {N : Nat} (hN : 67108864 < N) (l m : List (Gx.Meaning)) (h : l.length + (l.map (fun e : Gx.Meaning => e.size)).sum ≤ 4194304) : l_eqMeaningS N l m = some (decide (l = m)) := by
 unfold l_eqMeaningS
 refine eq_fld (fun h e => h (by rw [e])) (fun e => ?_)
 exact eq_loop (eq := fun x y => l_eqMeaning N x y) (fun p => rfl) (fun x hx y => p_eqMeaning hN x y (by have := mem_sum (fun e : Gx.Meaning => e.size) hx; (try dsimp only at this); omega)) (by omega) (by omega) (by omega)

theorem p_eqIntS {N : Nat} (hN : 67108864 < N) (l m : List (Int)) (h : l.length ≤ 4194304) : l_eqIntS N l m = some (decide (l = m)) := by
 unfold l_eqIntS
 refine eq_fld (fun h e => h (by rw [e])) (fun e => ?_)
 exact eq_loop (eq := fun x y => some (x == y)) (fun p => rfl) (fun x hx y => congrArg some (Bool.eq_iff_iff.2 (by simp))) (by omega) (by omega) (by omega)

theorem p_eqPuzzle {N : Nat} (hN : 67108864 < N) (x y : Gx.Puzzle) (h : x.size ≤ 4194304) : l_eqPuzzle N x y = some (decide (x = y)) := by
 unfold l_eqPuzzle
 unfold Gx.Puzzle.size at h
 rw [p_eqGrid hN x.mGrid y.mGrid (by omega)]
 refine eq_sub (fun h e => h (by rw [e])) (fun e0 => ?_)
 rw [p_eqClueS hN x.mClues y.mClues (by omega)]
 refine eq_sub (fun h e => h (by rw [e])) (fun e1 => ?_)
 rw [p_eqIntS hN x.mSeals y.mSeals (by omega)]
 refine eq_sub (fun h e => h (by rw [e])) (fun e2 => ?_)
 refine eq_fld (fun h e => h (by rw [e])) (fun e3 => ?_)
 have : x = y := by cases x; cases y; simp_all
 rw [decide_eq_true this]

theorem p_eqIssue {N : Nat} (hN : 67108864 < N) (x y : Gx.Issue) (h : x.size ≤ 4194304) : l_eqIssue N x y = some (decide (x = y)) := by
 unfold l_eqIssue
 unfold Gx.Issue.size at h
 refine eq_fld (fun h e => h (by rw [e])) (fun e0 => ?_)
 rw [p_eqPuzzle hN x.mPuzzle y.mPuzzle (by omega)]
 refine eq_sub (fun h e => h (by rw [e])) (fun e1 => ?_)
 refine eq_fld (fun h e => h (by rw [e])) (fun e2 => ?_)
 refine eq_fld (fun h e => h (by rw [e])) (fun e3 => ?_)
 refine eq_fld (fun h e => h (by rw [e])) (fun e4 => ?_)
 have : x = y := by cases x; cases y; simp_all
 rw [decide_eq_true this]

theorem p_eqIssueS {N : Nat} (hN : 67108864 < N) (l m : List (Gx.Issue)) (h : l.length + (l.map (fun e : Gx.Issue => e.size)).sum ≤ 4194304) : l_eqIssueS N l m = some (decide (l = m)) := by
 unfold l_eqIssueS
 refine eq_fld (fun h e => h (by rw [e])) (fun e => ?_)
 exact eq_loop (eq := fun x y => l_eqIssue N x y) (fun p => rfl) (fun x hx y => p_eqIssue hN x y (by have := mem_sum (fun e : Gx.Issue => e.size) hx; (try dsimp only at this); omega)) (by omega) (by omega) (by omega)

theorem p_eqUsed {N : Nat} (hN : 67108864 < N) (x y : Gx.Used) (h : x.size ≤ 4194304) : l_eqUsed N x y = some (decide (x = y)) := by
 unfold l_eqUsed
 unfold Gx.Used.size at h
 refine eq_fld (fun h e => h (by rw [e])) (fun e0 => ?_)
 refine eq_fld (fun h e => h (by rw [e])) (fun e1 => ?_)
 have : x = y := by cases x; cases y; simp_all
 rw [decide_eq_true this]

theorem p_eqUsedS {N : Nat} (hN : 67108864 < N) (l m : List (Gx.Used)) (h : l.length + (l.map (fun e : Gx.Used => e.size)).sum ≤ 4194304) : l_eqUsedS N l m = some (decide (l = m)) := by
 unfold l_eqUsedS
 refine eq_fld (fun h e => h (by rw [e])) (fun e => ?_)
 exact eq_loop (eq := fun x y => l_eqUsed N x y) (fun p => rfl) (fun x hx y => p_eqUsed hN x y (by have := mem_sum (fun e : Gx.Used => e.size) hx; (try dsimp only at this); omega)) (by omega) (by omega) (by omega)

theorem p_eqCorrection {N : Nat} (hN : 67108864 < N) (x y : Gx.Correction) (h : x.size ≤ 4194304) : l_eqCorrection N x y = some (decide (x = y)) := by
 unfold l_eqCorrection
 unfold Gx.Correction.size at h
 refine eq_fld (fun h e => h (by rw [e])) (fun e0 => ?_)
 refine eq_fld (fun h e => h (by rw [e])) (fun e1 => ?_)
 rw [p_eqClue hN x.mClue y.mClue (by omega)]
 refine eq_sub (fun h e => h (by rw [e])) (fun e2 => ?_)
 refine eq_fld (fun h e => h (by rw [e])) (fun e3 => ?_)
 have : x = y := by cases x; cases y; simp_all
 rw [decide_eq_true this]

theorem p_eqCorrectionS {N : Nat} (hN : 67108864 < N) (l m : List (Gx.Correction)) (h : l.length + (l.map (fun e : Gx.Correction => e.size)).sum ≤ 4194304) : l_eqCorrectionS N l m = some (decide (l = m)) := by
 unfold l_eqCorrectionS
 refine eq_fld (fun h e => h (by rw [e])) (fun e => ?_)
 exact eq_loop (eq := fun x y => l_eqCorrection N x y) (fun p => rfl) (fun x hx y => p_eqCorrection hN x y (by have := mem_sum (fun e : Gx.Correction => e.size) hx; (try dsimp only at this); omega)) (by omega) (by omega) (by omega)

theorem p_eqEntry {N : Nat} (hN : 67108864 < N) (x y : Gx.Entry) (h : x.size ≤ 4194304) : l_eqEntry N x y = some (decide (x = y)) := by
 unfold l_eqEntry
 unfold Gx.Entry.size at h
 refine eq_fld (fun h e => h (by rw [e])) (fun e0 => ?_)
 refine eq_fld (fun h e => h (by rw [e])) (fun e1 => ?_)
 refine eq_fld (fun h e => h (by rw [e])) (fun e2 => ?_)
 refine eq_fld (fun h e => h (by rw [e])) (fun e3 => ?_)
 have : x = y := by cases x; cases y; simp_all
 rw [decide_eq_true this]

theorem p_eqEntryS {N : Nat} (hN : 67108864 < N) (l m : List (Gx.Entry)) (h : l.length + (l.map (fun e : Gx.Entry => e.size)).sum ≤ 4194304) : l_eqEntryS N l m = some (decide (l = m)) := by
 unfold l_eqEntryS
 refine eq_fld (fun h e => h (by rw [e])) (fun e => ?_)
 exact eq_loop (eq := fun x y => l_eqEntry N x y) (fun p => rfl) (fun x hx y => p_eqEntry hN x y (by have := mem_sum (fun e : Gx.Entry => e.size) hx; (try dsimp only at this); omega)) (by omega) (by omega) (by omega)

theorem p_eqHouse {N : Nat} (hN : 67108864 < N) (x y : Gx.House) (h : x.size ≤ 4194304) : l_eqHouse N x y = some (decide (x = y)) := by
 unfold l_eqHouse
 unfold Gx.House.size at h
 rw [p_eqListedS hN x.mList y.mList (by omega)]
 refine eq_sub (fun h e => h (by rw [e])) (fun e0 => ?_)
 rw [p_eqMeaningS hN x.mDict y.mDict (by omega)]
 refine eq_sub (fun h e => h (by rw [e])) (fun e1 => ?_)
 rw [p_eqDraft hN x.mDesk y.mDesk (by omega)]
 refine eq_sub (fun h e => h (by rw [e])) (fun e2 => ?_)
 rw [p_eqIssueS hN x.mIssues y.mIssues (by omega)]
 refine eq_sub (fun h e => h (by rw [e])) (fun e3 => ?_)
 rw [p_eqUsedS hN x.mUses y.mUses (by omega)]
 refine eq_sub (fun h e => h (by rw [e])) (fun e4 => ?_)
 rw [p_eqCorrectionS hN x.mCorrections y.mCorrections (by omega)]
 refine eq_sub (fun h e => h (by rw [e])) (fun e5 => ?_)
 rw [p_eqEntryS hN x.mEntries y.mEntries (by omega)]
 refine eq_sub (fun h e => h (by rw [e])) (fun e6 => ?_)
 refine eq_fld (fun h e => h (by rw [e])) (fun e7 => ?_)
 have : x = y := by cases x; cases y; simp_all
 rw [decide_eq_true this]

def mkStep (N : Nat) (k : Nat) (x : Gx.Step) : Gx.Step := (⟨((k : Nat) : Int), mkT N (k + 1), ((k + 1 + 1 : Nat) : Int), ((k + 1 + 1 + 1 : Nat) : Int)⟩ : Gx.Step)
def cnStep (x : Gx.Step) : Nat := 1 + 1 + 1 + 1
theorem cnStep_le (x : Gx.Step) : cnStep x ≤ 16 * (x.size + 1) := by
 skip
 simp only [cnStep, Gx.Step.size]
 omega
def mkClue (N : Nat) (k : Nat) (x : Gx.Clue) : Gx.Clue := (⟨((k : Nat) : Int), markL (mkStep N) cnStep x.mPlay (k + 1)⟩ : Gx.Clue)
def cnClue (x : Gx.Clue) : Nat := 1 + (x.mPlay.map cnStep).sum
theorem cnClue_le (x : Gx.Clue) : cnClue x ≤ 16 * (x.size + 1) := by
 have := sum16 (c := cnStep) (s := (fun e : Gx.Step => e.size)) (fun y => cnStep_le y) x.mPlay
 simp only [cnClue, Gx.Clue.size]
 omega
theorem p_markStepS {N : Nat} (hN : 67108864 < N) (l : List (Gx.Step)) (k : Nat) (h : k + (l.map cnStep).sum ≤ 67108864) : l_markStepS N l (k : Int) = some (markL (mkStep N) cnStep l k, ((k + (l.map cnStep).sum : Nat) : Int)) := by
 have pt := fun (k : Nat) (h : k ≤ 67108864) => p_markText hN h
 have hl := len_sum (c := cnStep) (fun y => by simp only [cnStep]; omega) l
 unfold l_markStepS
 rw [mark_loop (fun a k i => (a, k, i)) (fi := fun a k => (a, k)) (mkStep N) cnStep 67108864 l ?_ ?_ k h (by omega)]
 ·rfl
 ·intro a i x k hl hx hi hm hk
  have hg : getI a (i : Int) = some x := getI_nat hx
  have e : k + cnStep x = k + 1 + 1 + 1 + 1 := by unfold cnStep; omega
  rw [e] at hk ⊢
  unfold l_markStepS_L1
  simp (disch := omega) only [sel_pos, hg, bnd_mk, pt, getI_set, w64_nat, Int.toNat_natCast]
  rfl
 ·intro a k hl
  unfold l_markStepS_L1
  simp (disch := omega) only [sel_neg]
theorem p_heldStepS {N : Nat} (hN : 67108864 < N) (l : List (Gx.Step)) (k : Nat) (h : k + (l.map cnStep).sum ≤ 67108864) : l_heldStepS N (markL (mkStep N) cnStep l k) (k : Int) = some ((k + (l.map cnStep).sum : Nat) : Int) := by
 have pt := fun (k : Nat) (h : k ≤ 67108864) => p_markText hN h
 have hl := len_sum (c := cnStep) (fun y => by simp only [cnStep]; omega) l
 have hm0 := markL_len (mkStep N) cnStep l k
 unfold l_heldStepS
 rw [held_loop (fun k i => (k, i)) (fi := fun k => Cut.nx k) (mkStep N) cnStep 67108864 l k ?_ ?_ h (by omega)]
 ·rfl
 ·intro i x q hx hi hm hk hq
  have hg := getI_nat hx
  have e : q + cnStep x = q + 1 + 1 + 1 + 1 := by unfold cnStep; omega
  rw [e] at hq ⊢
  unfold l_heldStepS_L1
  simp (disch := omega) only [sel_pos, sel_neg, hg, bnd_mk, mkStep, pt, w64_nat, bne_self_eq_false, sel_false]
 ·intro k
  unfold l_heldStepS_L1
  simp (disch := omega) only [sel_neg]
theorem p_markClueS {N : Nat} (hN : 67108864 < N) (l : List (Gx.Clue)) (k : Nat) (h : k + (l.map cnClue).sum ≤ 67108864) : l_markClueS N l (k : Int) = some (markL (mkClue N) cnClue l k, ((k + (l.map cnClue).sum : Nat) : Int)) := by
 have pt := fun (k : Nat) (h : k ≤ 67108864) => p_markText hN h
 have hl := len_sum (c := cnClue) (fun y => by simp only [cnClue]; omega) l
 unfold l_markClueS
 rw [mark_loop (fun a k i => (a, k, i)) (fi := fun a k => (a, k)) (mkClue N) cnClue 67108864 l ?_ ?_ k h (by omega)]
 ·rfl
 ·intro a i x k hl hx hi hm hk
  have hg : getI a (i : Int) = some x := getI_nat hx
  have e : k + cnClue x = k + 1 + (x.mPlay.map cnStep).sum := by unfold cnClue; omega
  rw [e] at hk ⊢
  unfold l_markClueS_L1
  simp (disch := omega) only [sel_pos, hg, bnd_mk, pt, p_markStepS hN, getI_set, w64_nat, Int.toNat_natCast]
  rfl
 ·intro a k hl
  unfold l_markClueS_L1
  simp (disch := omega) only [sel_neg]
theorem p_heldClueS {N : Nat} (hN : 67108864 < N) (l : List (Gx.Clue)) (k : Nat) (h : k + (l.map cnClue).sum ≤ 67108864) : l_heldClueS N (markL (mkClue N) cnClue l k) (k : Int) = some ((k + (l.map cnClue).sum : Nat) : Int) := by
 have pt := fun (k : Nat) (h : k ≤ 67108864) => p_markText hN h
 have hl := len_sum (c := cnClue) (fun y => by simp only [cnClue]; omega) l
 have hm0 := markL_len (mkClue N) cnClue l k
 unfold l_heldClueS
 rw [held_loop (fun k i => (k, i)) (fi := fun k => Cut.nx k) (mkClue N) cnClue 67108864 l k ?_ ?_ h (by omega)]
 ·rfl
 ·intro i x q hx hi hm hk hq
  have hg := getI_nat hx
  have e : q + cnClue x = q + 1 + (x.mPlay.map cnStep).sum := by unfold cnClue; omega
  rw [e] at hq ⊢
  unfold l_heldClueS_L1
  simp (disch := omega) only [sel_pos, sel_neg, hg, bnd_mk, mkClue, pt, p_heldStepS hN, w64_nat, bne_self_eq_false, sel_false]
 ·intro k
  unfold l_heldClueS_L1
  simp (disch := omega) only [sel_neg]
theorem p_markDraft {N : Nat} (hN : 67108864 < N) (x : Gx.Draft) (k : Nat) (h : k + (x.mClues.map cnClue).sum ≤ 67108864) : l_markDraft N x (k : Int) = some (markL (mkClue N) cnClue x.mClues (k), ((k + (x.mClues.map cnClue).sum : Nat) : Int)) := by
 unfold l_markDraft
 simp (disch := omega) only [p_markClueS hN, bnd_mk]
theorem p_heldDraft {N : Nat} (hN : 67108864 < N) (x y : Gx.Draft) (k : Nat) (e0 : y.mClues = markL (mkClue N) cnClue x.mClues (k)) (h : k + (x.mClues.map cnClue).sum ≤ 67108864) : l_heldDraft N y (k : Int) = some ((k + (x.mClues.map cnClue).sum : Nat) : Int) := by
 unfold l_heldDraft
 rw [e0, p_heldClueS hN x.mClues _ (by omega)]
 simp (disch := omega) only [bnd_mk, sel_neg]
theorem cntDraft_le (x : Gx.Draft) (k : Nat) : k + (x.mClues.map cnClue).sum ≤ k + 16 * x.size := by
 have := sum16 (c := cnClue) (s := (fun e : Gx.Clue => e.size)) (fun y => cnClue_le y) x.mClues
 simp only [Gx.Draft.size, Gx.Grid.size]
 omega
def mkListed (N : Nat) (k : Nat) (x : Gx.Listed) : Gx.Listed := (⟨mkT N (k), ((k + 1 : Nat) : Int), ((k + 1 + 1 : Nat) : Int), ((k + 1 + 1 + 1 : Nat) : Int)⟩ : Gx.Listed)
def cnListed (x : Gx.Listed) : Nat := 1 + 1 + 1 + 1
theorem cnListed_le (x : Gx.Listed) : cnListed x ≤ 16 * (x.size + 1) := by
 skip
 simp only [cnListed, Gx.Listed.size]
 omega
theorem p_markListedS {N : Nat} (hN : 67108864 < N) (l : List (Gx.Listed)) (k : Nat) (h : k + (l.map cnListed).sum ≤ 67108864) : l_markListedS N l (k : Int) = some (markL (mkListed N) cnListed l k, ((k + (l.map cnListed).sum : Nat) : Int)) := by
 have pt := fun (k : Nat) (h : k ≤ 67108864) => p_markText hN h
 have hl := len_sum (c := cnListed) (fun y => by simp only [cnListed]; omega) l
 unfold l_markListedS
 rw [mark_loop (fun a k i => (a, k, i)) (fi := fun a k => (a, k)) (mkListed N) cnListed 67108864 l ?_ ?_ k h (by omega)]
 ·rfl
 ·intro a i x k hl hx hi hm hk
  have hg : getI a (i : Int) = some x := getI_nat hx
  have e : k + cnListed x = k + 1 + 1 + 1 + 1 := by unfold cnListed; omega
  rw [e] at hk ⊢
  unfold l_markListedS_L1
  simp (disch := omega) only [sel_pos, hg, bnd_mk, pt, getI_set, w64_nat, Int.toNat_natCast]
  rfl
 ·intro a k hl
  unfold l_markListedS_L1
  simp (disch := omega) only [sel_neg]
theorem p_heldListedS {N : Nat} (hN : 67108864 < N) (l : List (Gx.Listed)) (k : Nat) (h : k + (l.map cnListed).sum ≤ 67108864) : l_heldListedS N (markL (mkListed N) cnListed l k) (k : Int) = some ((k + (l.map cnListed).sum : Nat) : Int) := by
 have pt := fun (k : Nat) (h : k ≤ 67108864) => p_markText hN h
 have hl := len_sum (c := cnListed) (fun y => by simp only [cnListed]; omega) l
 have hm0 := markL_len (mkListed N) cnListed l k
 unfold l_heldListedS
 rw [held_loop (fun k i => (k, i)) (fi := fun k => Cut.nx k) (mkListed N) cnListed 67108864 l k ?_ ?_ h (by omega)]
 ·rfl
 ·intro i x q hx hi hm hk hq
  have hg := getI_nat hx
  have e : q + cnListed x = q + 1 + 1 + 1 + 1 := by unfold cnListed; omega
  rw [e] at hq ⊢
  unfold l_heldListedS_L1
  simp (disch := omega) only [sel_pos, sel_neg, hg, bnd_mk, mkListed, pt, w64_nat, bne_self_eq_false, sel_false]
 ·intro k
  unfold l_heldListedS_L1
  simp (disch := omega) only [sel_neg]
def mkMeaning (N : Nat) (k : Nat) (x : Gx.Meaning) : Gx.Meaning := (⟨mkT N (k), ((k + 1 : Nat) : Int)⟩ : Gx.Meaning)
def cnMeaning (x : Gx.Meaning) : Nat := 1 + 1
theorem cnMeaning_le (x : Gx.Meaning) : cnMeaning x ≤ 16 * (x.size + 1) := by
 skip
 simp only [cnMeaning, Gx.Meaning.size]
 omega
theorem p_markMeaningS {N : Nat} (hN : 67108864 < N) (l : List (Gx.Meaning)) (k : Nat) (h : k + (l.map cnMeaning).sum ≤ 67108864) : l_markMeaningS N l (k : Int) = some (markL (mkMeaning N) cnMeaning l k, ((k + (l.map cnMeaning).sum : Nat) : Int)) := by
 have pt := fun (k : Nat) (h : k ≤ 67108864) => p_markText hN h
 have hl := len_sum (c := cnMeaning) (fun y => by simp only [cnMeaning]; omega) l
 unfold l_markMeaningS
 rw [mark_loop (fun a k i => (a, k, i)) (fi := fun a k => (a, k)) (mkMeaning N) cnMeaning 67108864 l ?_ ?_ k h (by omega)]
 ·rfl
 ·intro a i x k hl hx hi hm hk
  have hg : getI a (i : Int) = some x := getI_nat hx
  have e : k + cnMeaning x = k + 1 + 1 := by unfold cnMeaning; omega
  rw [e] at hk ⊢
  unfold l_markMeaningS_L1
  simp (disch := omega) only [sel_pos, hg, bnd_mk, pt, getI_set, w64_nat, Int.toNat_natCast]
  rfl
 ·intro a k hl
  unfold l_markMeaningS_L1
  simp (disch := omega) only [sel_neg]
theorem p_heldMeaningS {N : Nat} (hN : 67108864 < N) (l : List (Gx.Meaning)) (k : Nat) (h : k + (l.map cnMeaning).sum ≤ 67108864) : l_heldMeaningS N (markL (mkMeaning N) cnMeaning l k) (k : Int) = some ((k + (l.map cnMeaning).sum : Nat) : Int) := by
 have pt := fun (k : Nat) (h : k ≤ 67108864) => p_markText hN h
 have hl := len_sum (c := cnMeaning) (fun y => by simp only [cnMeaning]; omega) l
 have hm0 := markL_len (mkMeaning N) cnMeaning l k
 unfold l_heldMeaningS
 rw [held_loop (fun k i => (k, i)) (fi := fun k => Cut.nx k) (mkMeaning N) cnMeaning 67108864 l k ?_ ?_ h (by omega)]
 ·rfl
 ·intro i x q hx hi hm hk hq
  have hg := getI_nat hx
  have e : q + cnMeaning x = q + 1 + 1 := by unfold cnMeaning; omega
  rw [e] at hq ⊢
  unfold l_heldMeaningS_L1
  simp (disch := omega) only [sel_pos, sel_neg, hg, bnd_mk, mkMeaning, pt, w64_nat, bne_self_eq_false, sel_false]
 ·intro k
  unfold l_heldMeaningS_L1
  simp (disch := omega) only [sel_neg]
def mkInt (N : Nat) (k : Nat) (x : Int) : Int := ((k : Nat) : Int)
def cnInt (x : Int) : Nat := 1
def mkIssue (N : Nat) (k : Nat) (x : Gx.Issue) : Gx.Issue := (⟨((k : Nat) : Int), (⟨(⟨((k + 1 : Nat) : Int), ((k + 1 + 1 : Nat) : Int), mkT N (k + 1 + 1 + 1)⟩ : Gx.Grid), markL (mkClue N) cnClue x.mPuzzle.mClues (k + 1 + 1 + 1 + 1), markL (mkInt N) cnInt x.mPuzzle.mSeals (k + 1 + 1 + 1 + 1 + (x.mPuzzle.mClues.map cnClue).sum), ((k + 1 + 1 + 1 + 1 + (x.mPuzzle.mClues.map cnClue).sum + (x.mPuzzle.mSeals.map cnInt).sum : Nat) : Int)⟩ : Gx.Puzzle), mkT N (k + 1 + 1 + 1 + 1 + (x.mPuzzle.mClues.map cnClue).sum + (x.mPuzzle.mSeals.map cnInt).sum + 1), ((k + 1 + 1 + 1 + 1 + (x.mPuzzle.mClues.map cnClue).sum + (x.mPuzzle.mSeals.map cnInt).sum + 1 + 1 : Nat) : Int), ((k + 1 + 1 + 1 + 1 + (x.mPuzzle.mClues.map cnClue).sum + (x.mPuzzle.mSeals.map cnInt).sum + 1 + 1 + 1 : Nat) : Int)⟩ : Gx.Issue)
def cnIssue (x : Gx.Issue) : Nat := 1 + 1 + 1 + 1 + (x.mPuzzle.mClues.map cnClue).sum + (x.mPuzzle.mSeals.map cnInt).sum + 1 + 1 + 1 + 1
theorem cnIssue_le (x : Gx.Issue) : cnIssue x ≤ 16 * (x.size + 1) := by
 have := sum16 (c := cnClue) (s := (fun e : Gx.Clue => e.size)) (fun y => cnClue_le y) x.mPuzzle.mClues; have := sum16c (c := cnInt) (fun y => by simp only [cnInt]; omega) x.mPuzzle.mSeals
 simp only [cnIssue, Gx.Issue.size, Gx.Puzzle.size, Gx.Grid.size]
 omega
theorem p_markIntS {N : Nat} (hN : 67108864 < N) (l : List (Int)) (k : Nat) (h : k + (l.map cnInt).sum ≤ 67108864) : l_markIntS N l (k : Int) = some (markL (mkInt N) cnInt l k, ((k + (l.map cnInt).sum : Nat) : Int)) := by
 have pt := fun (k : Nat) (h : k ≤ 67108864) => p_markText hN h
 have hl := len_sum (c := cnInt) (fun y => by simp only [cnInt]; omega) l
 unfold l_markIntS
 rw [mark_loop (fun a k i => (a, k, i)) (fi := fun a k => (a, k)) (mkInt N) cnInt 67108864 l ?_ ?_ k h (by omega)]
 ·rfl
 ·intro a i x k hl hx hi hm hk
  have hg : getI a (i : Int) = some x := getI_nat hx
  have e : k + cnInt x = k + 1 := by unfold cnInt; omega
  rw [e] at hk ⊢
  unfold l_markIntS_L1
  simp (disch := omega) only [sel_pos, hg, bnd_mk, pt, getI_set, w64_nat, Int.toNat_natCast]
  rfl
 ·intro a k hl
  unfold l_markIntS_L1
  simp (disch := omega) only [sel_neg]
theorem p_heldIntS {N : Nat} (hN : 67108864 < N) (l : List (Int)) (k : Nat) (h : k + (l.map cnInt).sum ≤ 67108864) : l_heldIntS N (markL (mkInt N) cnInt l k) (k : Int) = some ((k + (l.map cnInt).sum : Nat) : Int) := by
 have pt := fun (k : Nat) (h : k ≤ 67108864) => p_markText hN h
 have hl := len_sum (c := cnInt) (fun y => by simp only [cnInt]; omega) l
 have hm0 := markL_len (mkInt N) cnInt l k
 unfold l_heldIntS
 rw [held_loop (fun k i => (k, i)) (fi := fun k => Cut.nx k) (mkInt N) cnInt 67108864 l k ?_ ?_ h (by omega)]
 ·rfl
 ·intro i x q hx hi hm hk hq
  have hg := getI_nat hx
  have e : q + cnInt x = q + 1 := by unfold cnInt; omega
  rw [e] at hq ⊢
  unfold l_heldIntS_L1
  simp (disch := omega) only [sel_pos, sel_neg, hg, bnd_mk, mkInt, pt, w64_nat, bne_self_eq_false, sel_false]
 ·intro k
  unfold l_heldIntS_L1
  simp (disch := omega) only [sel_neg]
theorem p_markIssueS {N : Nat} (hN : 67108864 < N) (l : List (Gx.Issue)) (k : Nat) (h : k + (l.map cnIssue).sum ≤ 67108864) : l_markIssueS N l (k : Int) = some (markL (mkIssue N) cnIssue l k, ((k + (l.map cnIssue).sum : Nat) : Int)) := by
 have pt := fun (k : Nat) (h : k ≤ 67108864) => p_markText hN h
 have hl := len_sum (c := cnIssue) (fun y => by simp only [cnIssue]; omega) l
 unfold l_markIssueS
 rw [mark_loop (fun a k i => (a, k, i)) (fi := fun a k => (a, k)) (mkIssue N) cnIssue 67108864 l ?_ ?_ k h (by omega)]
 ·rfl
 ·intro a i x k hl hx hi hm hk
  have hg : getI a (i : Int) = some x := getI_nat hx
  have e : k + cnIssue x = k + 1 + 1 + 1 + 1 + (x.mPuzzle.mClues.map cnClue).sum + (x.mPuzzle.mSeals.map cnInt).sum + 1 + 1 + 1 + 1 := by unfold cnIssue; omega
  rw [e] at hk ⊢
  unfold l_markIssueS_L1
  simp (disch := omega) only [sel_pos, hg, bnd_mk, pt, p_markClueS hN, p_markIntS hN, getI_set, w64_nat, Int.toNat_natCast]
  rfl
 ·intro a k hl
  unfold l_markIssueS_L1
  simp (disch := omega) only [sel_neg]
theorem p_heldIssueS {N : Nat} (hN : 67108864 < N) (l : List (Gx.Issue)) (k : Nat) (h : k + (l.map cnIssue).sum ≤ 67108864) : l_heldIssueS N (markL (mkIssue N) cnIssue l k) (k : Int) = some ((k + (l.map cnIssue).sum : Nat) : Int) := by
 have pt := fun (k : Nat) (h : k ≤ 67108864) => p_markText hN h
 have hl := len_sum (c := cnIssue) (fun y => by simp only [cnIssue]; omega) l
 have hm0 := markL_len (mkIssue N) cnIssue l k
 unfold l_heldIssueS
 rw [held_loop (fun k i => (k, i)) (fi := fun k => Cut.nx k) (mkIssue N) cnIssue 67108864 l k ?_ ?_ h (by omega)]
 ·rfl
 ·intro i x q hx hi hm hk hq
  have hg := getI_nat hx
  have e : q + cnIssue x = q + 1 + 1 + 1 + 1 + (x.mPuzzle.mClues.map cnClue).sum + (x.mPuzzle.mSeals.map cnInt).sum + 1 + 1 + 1 + 1 := by unfold cnIssue; omega
  rw [e] at hq ⊢
  unfold l_heldIssueS_L1
  simp (disch := omega) only [sel_pos, sel_neg, hg, bnd_mk, mkIssue, pt, p_heldClueS hN, p_heldIntS hN, w64_nat, bne_self_eq_false, sel_false]
 ·intro k
  unfold l_heldIssueS_L1
  simp (disch := omega) only [sel_neg]
def mkUsed (N : Nat) (k : Nat) (x : Gx.Used) : Gx.Used := (⟨mkT N (k), ((k + 1 : Nat) : Int)⟩ : Gx.Used)
def cnUsed (x : Gx.Used) : Nat := 1 + 1
theorem cnUsed_le (x : Gx.Used) : cnUsed x ≤ 16 * (x.size + 1) := by
 skip
 simp only [cnUsed, Gx.Used.size]
 omega
theorem p_markUsedS {N : Nat} (hN : 67108864 < N) (l : List (Gx.Used)) (k : Nat) (h : k + (l.map cnUsed).sum ≤ 67108864) : l_markUsedS N l (k : Int) = some (markL (mkUsed N) cnUsed l k, ((k + (l.map cnUsed).sum : Nat) : Int)) := by
 have pt := fun (k : Nat) (h : k ≤ 67108864) => p_markText hN h
 have hl := len_sum (c := cnUsed) (fun y => by simp only [cnUsed]; omega) l
 unfold l_markUsedS
 rw [mark_loop (fun a k i => (a, k, i)) (fi := fun a k => (a, k)) (mkUsed N) cnUsed 67108864 l ?_ ?_ k h (by omega)]
 ·rfl
 ·intro a i x k hl hx hi hm hk
  have hg : getI a (i : Int) = some x := getI_nat hx
  have e : k + cnUsed x = k + 1 + 1 := by unfold cnUsed; omega
  rw [e] at hk ⊢
  unfold l_markUsedS_L1
  simp (disch := omega) only [sel_pos, hg, bnd_mk, pt, getI_set, w64_nat, Int.toNat_natCast]
  rfl
 ·intro a k hl
  unfold l_markUsedS_L1
  simp (disch := omega) only [sel_neg]
theorem p_heldUsedS {N : Nat} (hN : 67108864 < N) (l : List (Gx.Used)) (k : Nat) (h : k + (l.map cnUsed).sum ≤ 67108864) : l_heldUsedS N (markL (mkUsed N) cnUsed l k) (k : Int) = some ((k + (l.map cnUsed).sum : Nat) : Int) := by
 have pt := fun (k : Nat) (h : k ≤ 67108864) => p_markText hN h
 have hl := len_sum (c := cnUsed) (fun y => by simp only [cnUsed]; omega) l
 have hm0 := markL_len (mkUsed N) cnUsed l k
 unfold l_heldUsedS
 rw [held_loop (fun k i => (k, i)) (fi := fun k => Cut.nx k) (mkUsed N) cnUsed 67108864 l k ?_ ?_ h (by omega)]
 ·rfl
 ·intro i x q hx hi hm hk hq
  have hg := getI_nat hx
  have e : q + cnUsed x = q + 1 + 1 := by unfold cnUsed; omega
  rw [e] at hq ⊢
  unfold l_heldUsedS_L1
  simp (disch := omega) only [sel_pos, sel_neg, hg, bnd_mk, mkUsed, pt, w64_nat, bne_self_eq_false, sel_false]
 ·intro k
  unfold l_heldUsedS_L1
  simp (disch := omega) only [sel_neg]
def mkCorrection (N : Nat) (k : Nat) (x : Gx.Correction) : Gx.Correction := (⟨((k : Nat) : Int), ((k + 1 : Nat) : Int), (⟨((k + 1 + 1 : Nat) : Int), markL (mkStep N) cnStep x.mClue.mPlay (k + 1 + 1 + 1)⟩ : Gx.Clue), ((k + 1 + 1 + 1 + (x.mClue.mPlay.map cnStep).sum : Nat) : Int)⟩ : Gx.Correction)
def cnCorrection (x : Gx.Correction) : Nat := 1 + 1 + 1 + (x.mClue.mPlay.map cnStep).sum + 1
theorem cnCorrection_le (x : Gx.Correction) : cnCorrection x ≤ 16 * (x.size + 1) := by
 have := sum16 (c := cnStep) (s := (fun e : Gx.Step => e.size)) (fun y => cnStep_le y) x.mClue.mPlay
 simp only [cnCorrection, Gx.Correction.size, Gx.Clue.size]
 omega
theorem p_markCorrectionS {N : Nat} (hN : 67108864 < N) (l : List (Gx.Correction)) (k : Nat) (h : k + (l.map cnCorrection).sum ≤ 67108864) : l_markCorrectionS N l (k : Int) = some (markL (mkCorrection N) cnCorrection l k, ((k + (l.map cnCorrection).sum : Nat) : Int)) := by
 have pt := fun (k : Nat) (h : k ≤ 67108864) => p_markText hN h
 have hl := len_sum (c := cnCorrection) (fun y => by simp only [cnCorrection]; omega) l
 unfold l_markCorrectionS
 rw [mark_loop (fun a k i => (a, k, i)) (fi := fun a k => (a, k)) (mkCorrection N) cnCorrection 67108864 l ?_ ?_ k h (by omega)]
 ·rfl
 ·intro a i x k hl hx hi hm hk
  have hg : getI a (i : Int) = some x := getI_nat hx
  have e : k + cnCorrection x = k + 1 + 1 + 1 + (x.mClue.mPlay.map cnStep).sum + 1 := by unfold cnCorrection; omega
  rw [e] at hk ⊢
  unfold l_markCorrectionS_L1
  simp (disch := omega) only [sel_pos, hg, bnd_mk, pt, p_markStepS hN, getI_set, w64_nat, Int.toNat_natCast]
  rfl
 ·intro a k hl
  unfold l_markCorrectionS_L1
  simp (disch := omega) only [sel_neg]
theorem p_heldCorrectionS {N : Nat} (hN : 67108864 < N) (l : List (Gx.Correction)) (k : Nat) (h : k + (l.map cnCorrection).sum ≤ 67108864) : l_heldCorrectionS N (markL (mkCorrection N) cnCorrection l k) (k : Int) = some ((k + (l.map cnCorrection).sum : Nat) : Int) := by
 have pt := fun (k : Nat) (h : k ≤ 67108864) => p_markText hN h
 have hl := len_sum (c := cnCorrection) (fun y => by simp only [cnCorrection]; omega) l
 have hm0 := markL_len (mkCorrection N) cnCorrection l k
 unfold l_heldCorrectionS
 rw [held_loop (fun k i => (k, i)) (fi := fun k => Cut.nx k) (mkCorrection N) cnCorrection 67108864 l k ?_ ?_ h (by omega)]
 ·rfl
 ·intro i x q hx hi hm hk hq
  have hg := getI_nat hx
  have e : q + cnCorrection x = q + 1 + 1 + 1 + (x.mClue.mPlay.map cnStep).sum + 1 := by unfold cnCorrection; omega
  rw [e] at hq ⊢
  unfold l_heldCorrectionS_L1
  simp (disch := omega) only [sel_pos, sel_neg, hg, bnd_mk, mkCorrection, pt, p_heldStepS hN, w64_nat, bne_self_eq_false, sel_false]
 ·intro k
  unfold l_heldCorrectionS_L1
  simp (disch := omega) only [sel_neg]
def mkEntry (N : Nat) (k : Nat) (x : Gx.Entry) : Gx.Entry := (⟨((k : Nat) : Int), ((k + 1 : Nat) : Int), ((k + 1 + 1 : Nat) : Int), mkT N (k + 1 + 1 + 1)⟩ : Gx.Entry)
def cnEntry (x : Gx.Entry) : Nat := 1 + 1 + 1 + 1
theorem cnEntry_le (x : Gx.Entry) : cnEntry x ≤ 16 * (x.size + 1) := by
 skip
 simp only [cnEntry, Gx.Entry.size]
 omega
theorem p_markEntryS {N : Nat} (hN : 67108864 < N) (l : List (Gx.Entry)) (k : Nat) (h : k + (l.map cnEntry).sum ≤ 67108864) : l_markEntryS N l (k : Int) = some (markL (mkEntry N) cnEntry l k, ((k + (l.map cnEntry).sum : Nat) : Int)) := by
 have pt := fun (k : Nat) (h : k ≤ 67108864) => p_markText hN h
 have hl := len_sum (c := cnEntry) (fun y => by simp only [cnEntry]; omega) l
 unfold l_markEntryS
 rw [mark_loop (fun a k i => (a, k, i)) (fi := fun a k => (a, k)) (mkEntry N) cnEntry 67108864 l ?_ ?_ k h (by omega)]
 ·rfl
 ·intro a i x k hl hx hi hm hk
  have hg : getI a (i : Int) = some x := getI_nat hx
  have e : k + cnEntry x = k + 1 + 1 + 1 + 1 := by unfold cnEntry; omega
  rw [e] at hk ⊢
  unfold l_markEntryS_L1
  simp (disch := omega) only [sel_pos, hg, bnd_mk, pt, getI_set, w64_nat, Int.toNat_natCast]
  rfl
 ·intro a k hl
  unfold l_markEntryS_L1
  simp (disch := omega) only [sel_neg]
theorem p_heldEntryS {N : Nat} (hN : 67108864 < N) (l : List (Gx.Entry)) (k : Nat) (h : k + (l.map cnEntry).sum ≤ 67108864) : l_heldEntryS N (markL (mkEntry N) cnEntry l k) (k : Int) = some ((k + (l.map cnEntry).sum : Nat) : Int) := by
 have pt := fun (k : Nat) (h : k ≤ 67108864) => p_markText hN h
 have hl := len_sum (c := cnEntry) (fun y => by simp only [cnEntry]; omega) l
 have hm0 := markL_len (mkEntry N) cnEntry l k
 unfold l_heldEntryS
 rw [held_loop (fun k i => (k, i)) (fi := fun k => Cut.nx k) (mkEntry N) cnEntry 67108864 l k ?_ ?_ h (by omega)]
 ·rfl
 ·intro i x q hx hi hm hk hq
  have hg := getI_nat hx
  have e : q + cnEntry x = q + 1 + 1 + 1 + 1 := by unfold cnEntry; omega
  rw [e] at hq ⊢
  unfold l_heldEntryS_L1
  simp (disch := omega) only [sel_pos, sel_neg, hg, bnd_mk, mkEntry, pt, w64_nat, bne_self_eq_false, sel_false]
 ·intro k
  unfold l_heldEntryS_L1
  simp (disch := omega) only [sel_neg]
theorem p_markHouse {N : Nat} (hN : 67108864 < N) (x : Gx.House) (k : Nat) (h : k + (x.mList.map cnListed).sum + (x.mDict.map cnMeaning).sum + (x.mDesk.mClues.map cnClue).sum + (x.mIssues.map cnIssue).sum + (x.mUses.map cnUsed).sum + (x.mCorrections.map cnCorrection).sum + (x.mEntries.map cnEntry).sum ≤ 67108864) : l_markHouse N x (k : Int) = some (markL (mkListed N) cnListed x.mList (k), markL (mkMeaning N) cnMeaning x.mDict (k + (x.mList.map cnListed).sum), markL (mkClue N) cnClue x.mDesk.mClues (k + (x.mList.map cnListed).sum + (x.mDict.map cnMeaning).sum), markL (mkIssue N) cnIssue x.mIssues (k + (x.mList.map cnListed).sum + (x.mDict.map cnMeaning).sum + (x.mDesk.mClues.map cnClue).sum), markL (mkUsed N) cnUsed x.mUses (k + (x.mList.map cnListed).sum + (x.mDict.map cnMeaning).sum + (x.mDesk.mClues.map cnClue).sum + (x.mIssues.map cnIssue).sum), markL (mkCorrection N) cnCorrection x.mCorrections (k + (x.mList.map cnListed).sum + (x.mDict.map cnMeaning).sum + (x.mDesk.mClues.map cnClue).sum + (x.mIssues.map cnIssue).sum + (x.mUses.map cnUsed).sum), markL (mkEntry N) cnEntry x.mEntries (k + (x.mList.map cnListed).sum + (x.mDict.map cnMeaning).sum + (x.mDesk.mClues.map cnClue).sum + (x.mIssues.map cnIssue).sum + (x.mUses.map cnUsed).sum + (x.mCorrections.map cnCorrection).sum), ((k + (x.mList.map cnListed).sum + (x.mDict.map cnMeaning).sum + (x.mDesk.mClues.map cnClue).sum + (x.mIssues.map cnIssue).sum + (x.mUses.map cnUsed).sum + (x.mCorrections.map cnCorrection).sum + (x.mEntries.map cnEntry).sum : Nat) : Int)) := by
 unfold l_markHouse
 simp (disch := omega) only [p_markListedS hN, p_markMeaningS hN, p_markDraft hN, p_markIssueS hN, p_markUsedS hN, p_markCorrectionS hN, p_markEntryS hN, bnd_mk]
theorem p_heldHouse {N : Nat} (hN : 67108864 < N) (x y : Gx.House) (k : Nat) (e0 : y.mList = markL (mkListed N) cnListed x.mList (k)) (e1 : y.mDict = markL (mkMeaning N) cnMeaning x.mDict (k + (x.mList.map cnListed).sum)) (e2 : y.mDesk.mClues = markL (mkClue N) cnClue x.mDesk.mClues (k + (x.mList.map cnListed).sum + (x.mDict.map cnMeaning).sum)) (e3 : y.mIssues = markL (mkIssue N) cnIssue x.mIssues (k + (x.mList.map cnListed).sum + (x.mDict.map cnMeaning).sum + (x.mDesk.mClues.map cnClue).sum)) (e4 : y.mUses = markL (mkUsed N) cnUsed x.mUses (k + (x.mList.map cnListed).sum + (x.mDict.map cnMeaning).sum + (x.mDesk.mClues.map cnClue).sum + (x.mIssues.map cnIssue).sum)) (e5 : y.mCorrections = markL (mkCorrection N) cnCorrection x.mCorrections (k + (x.mList.map cnListed).sum + (x.mDict.map cnMeaning).sum + (x.mDesk.mClues.map cnClue).sum + (x.mIssues.map cnIssue).sum + (x.mUses.map cnUsed).sum)) (e6 : y.mEntries = markL (mkEntry N) cnEntry x.mEntries (k + (x.mList.map cnListed).sum + (x.mDict.map cnMeaning).sum + (x.mDesk.mClues.map cnClue).sum + (x.mIssues.map cnIssue).sum + (x.mUses.map cnUsed).sum + (x.mCorrections.map cnCorrection).sum)) (h : k + (x.mList.map cnListed).sum + (x.mDict.map cnMeaning).sum + (x.mDesk.mClues.map cnClue).sum + (x.mIssues.map cnIssue).sum + (x.mUses.map cnUsed).sum + (x.mCorrections.map cnCorrection).sum + (x.mEntries.map cnEntry).sum ≤ 67108864) : l_heldHouse N y (k : Int) = some ((k + (x.mList.map cnListed).sum + (x.mDict.map cnMeaning).sum + (x.mDesk.mClues.map cnClue).sum + (x.mIssues.map cnIssue).sum + (x.mUses.map cnUsed).sum + (x.mCorrections.map cnCorrection).sum + (x.mEntries.map cnEntry).sum : Nat) : Int) := by
 unfold l_heldHouse
 rw [e0, p_heldListedS hN x.mList _ (by omega)]
 simp (disch := omega) only [bnd_mk, sel_neg]
 rw [e1, p_heldMeaningS hN x.mDict _ (by omega)]
 simp (disch := omega) only [bnd_mk, sel_neg]
 rw [p_heldDraft hN x.mDesk y.mDesk _ e2 (by omega)]
 simp (disch := omega) only [bnd_mk, sel_neg]
 rw [e3, p_heldIssueS hN x.mIssues _ (by omega)]
 simp (disch := omega) only [bnd_mk, sel_neg]
 rw [e4, p_heldUsedS hN x.mUses _ (by omega)]
 simp (disch := omega) only [bnd_mk, sel_neg]
 rw [e5, p_heldCorrectionS hN x.mCorrections _ (by omega)]
 simp (disch := omega) only [bnd_mk, sel_neg]
 rw [e6, p_heldEntryS hN x.mEntries _ (by omega)]
 simp (disch := omega) only [bnd_mk, sel_neg]
theorem cntHouse_le (x : Gx.House) (k : Nat) : k + (x.mList.map cnListed).sum + (x.mDict.map cnMeaning).sum + (x.mDesk.mClues.map cnClue).sum + (x.mIssues.map cnIssue).sum + (x.mUses.map cnUsed).sum + (x.mCorrections.map cnCorrection).sum + (x.mEntries.map cnEntry).sum ≤ k + 16 * x.size := by
 have := sum16 (c := cnListed) (s := (fun e : Gx.Listed => e.size)) (fun y => cnListed_le y) x.mList
 have := sum16 (c := cnMeaning) (s := (fun e : Gx.Meaning => e.size)) (fun y => cnMeaning_le y) x.mDict
 have := sum16 (c := cnClue) (s := (fun e : Gx.Clue => e.size)) (fun y => cnClue_le y) x.mDesk.mClues
 have := sum16 (c := cnIssue) (s := (fun e : Gx.Issue => e.size)) (fun y => cnIssue_le y) x.mIssues
 have := sum16 (c := cnUsed) (s := (fun e : Gx.Used => e.size)) (fun y => cnUsed_le y) x.mUses
 have := sum16 (c := cnCorrection) (s := (fun e : Gx.Correction => e.size)) (fun y => cnCorrection_le y) x.mCorrections
 have := sum16 (c := cnEntry) (s := (fun e : Gx.Entry => e.size)) (fun y => cnEntry_le y) x.mEntries
 simp only [Gx.House.size, Gx.Draft.size, Gx.Grid.size]
 omega
end Lw
end Go.Proofs
