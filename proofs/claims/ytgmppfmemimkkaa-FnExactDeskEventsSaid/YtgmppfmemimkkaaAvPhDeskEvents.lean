/- PRINTED BY plain.py (mine): what the law's own helpers compute. -/
import Derived.Test.YtgmppfmemimkkaaAvPl
import Derived.Test.YtgmppfmemimkkaaAvShDeskEvents
namespace Go.Proofs
open Go Go.Av
set_option maxRecDepth 100000
set_option maxHeartbeats 4000000
set_option linter.unusedVariables false
set_option linter.unusedSimpArgs false
namespace Lw
/-! ### marking and finding again -/
def markL {α : Type} (f : Nat → α → α) (c : α → Nat) : List α → Nat → List α
 | [], _ => []
 | x :: r, k => f k x :: markL f c r (k + c x)
theorem markL_len {α : Type} (f : Nat → α → α) (c : α → Nat) : ∀ (l : List α) (k : Nat), (markL f c l k).length = l.length
 | [], _ => rfl
 | x :: r, k => by simp only [markL, List.length_cons, markL_len f c r]
theorem mark_loop {α σ β : Type} (mk : List α → Int → Int → σ) {step : σ → Option (Sum σ β)} (f : Nat → α → α) (c : α → Nat) {fi : List α → Int → β} {N : Nat} (B : Nat) (l : List α)
  (hs : ∀ (a : List α) (i : Nat) (x : α) (k : Nat), a.length = l.length → a[i]? = some x → i < l.length → x ∈ l → k + c x ≤ B → step (mk a (k : Int) (i : Int)) = some (.inl (mk (a.set i (f k x)) ((k + c x : Nat) : Int) ((i + 1 : Nat) : Int))))
  (he : ∀ (a : List α) (k : Int), a.length = l.length → step (mk a k (l.length : Int)) = some (.inr (fi a k)))
  (k0 : Nat) (hB : k0 + (l.map c).sum ≤ B) (hN : l.length < N) : loopN step N (mk l (k0 : Int) 0) = some (fi (markL f c l k0) ((k0 + (l.map c).sum : Nat) : Int)) := by
 have key : ∀ (r pre : List α) (k F : Nat), pre.length + r.length = l.length → (∀ x ∈ r, x ∈ l) → k + (r.map c).sum ≤ B → r.length < F →
   loopN step F (mk (pre ++ r) (k : Int) (pre.length : Int)) = some (fi (pre ++ markL f c r k) ((k + (r.map c).sum : Nat) : Int)) := by
  intro r
  induction r with
  | nil =>
   intro pre k F h1 _ _ hF
   obtain ⟨F, rfl⟩ : ∃ n, F = n + 1 := ⟨F - 1, by omega⟩
   have e : pre.length = l.length := by simpa using h1
   simp only [loopN, List.append_nil, markL, List.map_nil, List.sum_nil, Nat.add_zero]
   rw [e, he pre k e]
  | cons x r ih =>
   intro pre k F h1 h2 h3 hF
   obtain ⟨F, rfl⟩ : ∃ n, F = n + 1 := ⟨F - 1, by omega⟩
   simp only [List.length_cons] at h1 hF
   simp only [List.map_cons, List.sum_cons] at h3 ⊢
   have hx : (pre ++ x :: r)[pre.length]? = some x := by simp
   simp only [loopN]
   rw [hs (pre ++ x :: r) pre.length x k (by simp; omega) hx (by omega) (h2 x (by simp)) (by omega)]
   have es : (pre ++ x :: r).set pre.length (f k x) = (pre ++ [f k x]) ++ r := by
    rw [List.set_append_right _ _ (by omega)]; simp
   have el : ((pre.length + 1 : Nat) : Int) = ((pre ++ [f k x]).length : Int) := by simp
   simp only
   rw [es, el, ih (pre ++ [f k x]) (k + c x) F (by simp; omega) (fun y hy => h2 y (by simp [hy])) (by omega) (by omega)]
   simp only [markL, List.append_assoc, List.singleton_append, Nat.add_assoc]
 have := key l [] k0 N (by simp) (fun x h => h) hB hN
 simpa using this
theorem held_loop {α σ β : Type} (mk : Int → Int → σ) {step : σ → Option (Sum σ β)} (f : Nat → α → α) (c : α → Nat) {fi : Int → β} {N : Nat} (B : Nat) (l : List α) (k0 : Nat)
  (hs : ∀ (i : Nat) (x : α) (k : Nat), (markL f c l k0)[i]? = some (f k x) → i < l.length → x ∈ l → k0 ≤ k → k + c x ≤ B → step (mk (k : Int) (i : Int)) = some (.inl (mk ((k + c x : Nat) : Int) ((i + 1 : Nat) : Int))))
  (he : ∀ (k : Int), step (mk k (l.length : Int)) = some (.inr (fi k)))
  (hB : k0 + (l.map c).sum ≤ B) (hN : l.length < N) : loopN step N (mk (k0 : Int) 0) = some (fi ((k0 + (l.map c).sum : Nat) : Int)) := by
 have key : ∀ (r : List α) (pre : List α) (k F : Nat), markL f c l k0 = pre ++ markL f c r k → pre.length + r.length = l.length → (∀ x ∈ r, x ∈ l) → k0 ≤ k → k + (r.map c).sum ≤ B → r.length < F →
   loopN step F (mk (k : Int) (pre.length : Int)) = some (fi ((k + (r.map c).sum : Nat) : Int)) := by
  intro r
  induction r with
  | nil =>
   intro pre k F _ h1 _ _ _ hF
   obtain ⟨F, rfl⟩ : ∃ n, F = n + 1 := ⟨F - 1, by omega⟩
   have e : pre.length = l.length := by simpa using h1
   simp only [loopN, List.map_nil, List.sum_nil, Nat.add_zero]
   rw [e, he k]
  | cons x r ih =>
   intro pre k F h0 h1 h2 hk h3 hF
   obtain ⟨F, rfl⟩ : ∃ n, F = n + 1 := ⟨F - 1, by omega⟩
   simp only [List.length_cons] at h1 hF
   simp only [List.map_cons, List.sum_cons] at h3 ⊢
   simp only [markL] at h0
   have hx : (markL f c l k0)[pre.length]? = some (f k x) := by rw [h0]; simp
   simp only [loopN]
   rw [hs pre.length x k hx (by omega) (h2 x (by simp)) hk (by omega)]
   have el : ((pre.length + 1 : Nat) : Int) = ((pre ++ [f k x]).length : Int) := by simp
   simp only
   rw [el, ih (pre ++ [f k x]) (k + c x) F (by rw [h0]; simp) (by simp; omega) (fun y hy => h2 y (by simp [hy])) (by omega) (by omega) (by omega), Nat.add_assoc]
 have := key l [] k0 N (by simp) (by simp) (fun x h => h) (Nat.le_refl _) hB hN
 simpa using this
theorem getI_set {α : Type} {l : List α} {i : Nat} {x : α} (h : i < l.length) : getI (l.set i x) (i : Int) = some x := getI_nat (by simp [h])

theorem len_sum {α : Type} {c : α → Nat} (h : ∀ x, 1 ≤ c x) : ∀ l : List α, l.length ≤ (l.map c).sum
 | [] => Nat.le_refl _
 | x :: r => by have := len_sum h r; have := h x; simp only [List.length_cons, List.map_cons, List.sum_cons]; omega
theorem sum16 {α : Type} {c s : α → Nat} (h : ∀ x, c x ≤ 16 * (s x + 1)) : ∀ l : List α, (l.map c).sum ≤ 16 * (l.length + (l.map s).sum)
 | [] => Nat.zero_le _
 | x :: r => by have := sum16 h r; have := h x; simp only [List.length_cons, List.map_cons, List.sum_cons]; omega
theorem sum16c {α : Type} {c : α → Nat} (h : ∀ x, c x ≤ 16) : ∀ l : List α, (l.map c).sum ≤ 16 * l.length
 | [] => Nat.zero_le _
 | x :: r => by have := sum16c h r; have := h x; simp only [List.length_cons, List.map_cons, List.sum_cons]; omega
def mkT (N k : Nat) : List UInt8 := (l_markText N (k : Int)).getD []
theorem p_markText {N : Nat} (hN : 67108864 < N) {k : Nat} (h : k ≤ 67108864) : l_markText N (k : Int) = some (mkT N k) := by
 have key : ∀ (F k : Nat) (out : List UInt8), k < F → k + out.length ≤ 134217728 → ∃ t, loopN (l_markText_L1 N) F ((k : Int), out) = some t ∧ t.length ≤ 134217728 := by
  intro F
  induction F with
  | zero => intro k out h; omega
  | succ F ih =>
   intro k out hk hl
   by_cases hz : k = 0
   ·subst hz
    exact ⟨out, rfl, by omega⟩
   ·have e : Int.tdiv (k : Int) 10 = ((k / 10 : Nat) : Int) := (Int.ofNat_tdiv k 10).symm
    obtain ⟨t, h1, h2⟩ := ih (k / 10) ([UInt8.ofInt (IntKind.u8.wrap (w64 (48 + (Int.tmod (k : Int) 10))))] ++ out) (by omega) (by simp only [List.length_append, List.length_cons, List.length_nil]; omega)
    refine ⟨t, ?_, h2⟩
    simp only [loopN]
    have hs : l_markText_L1 N ((k : Int), out) = some (.inl (((k / 10 : Nat) : Int), [UInt8.ofInt (IntKind.u8.wrap (w64 (48 + (Int.tmod (k : Int) 10))))] ++ out)) := by
     unfold l_markText_L1
     rw [sel_pos (by simp only; omega), chk_pos (by decide), chk_pos (by simp only [List.length_cons, List.length_nil]; omega), chk_pos (by decide)]
     simp only [e]
     rw [w64_in (by omega) (by omega)]
    rw [hs]
    exact h1
 suffices hx : ∃ t, l_markText N (k : Int) = some t by
  obtain ⟨t, ht⟩ := hx
  rw [mkT, ht]; rfl
 unfold l_markText
 by_cases hz : k = 0
 ·subst hz; exact ⟨_, rfl⟩
 ·obtain ⟨t, h1, h2⟩ := key N k [] (by omega) (by simp; omega)
  refine ⟨[109] ++ t, ?_⟩
  rw [sel_neg (by omega), h1]
  simp only [bnd_mk]
  rw [chk_pos (by simp only [List.length_cons, List.length_nil]; omega)]
theorem p_szGrid {N : Nat} (hN : 67108864 < N) (x : Gx.Grid) (hok : x.ok) {left : Int} (h0 : 0 ≤ left) (h1 : left ≤ 1048576) : l_szGrid N x left = some (szF x.size left) := by
 unfold l_szGrid Gx.Grid.size
 unfold Gx.Grid.ok at hok
 obtain ⟨q0, q1, q2⟩ := hok
 exact sz_len h0 h1 q2

theorem p_toGrid {N : Nat} (hN : 67108864 < N) (x : Gx.Grid) (h : x.size ≤ 1048576) : l_toGrid N x = some x := by
 unfold l_toGrid
 all_goals rfl

theorem p_eqGrid {N : Nat} (hN : 67108864 < N) (x y : Gx.Grid) (h : x.size ≤ 4194304) : l_eqGrid N x y = some (decide (x = y)) := by
 unfold l_eqGrid
 unfold Gx.Grid.size at h
 refine eq_fld (fun h e => h (by rw [e])) (fun e0 => ?_)
 refine eq_fld (fun h e => h (by rw [e])) (fun e1 => ?_)
 refine eq_fld (fun h e => h (by rw [e])) (fun e2 => ?_)
 have : x = y := by cases x; cases y; simp_all
 rw [decide_eq_true this]

theorem p_szStep {N : Nat} (hN : 67108864 < N) (x : Gx.Step) (hok : x.ok) {left : Int} (h0 : 0 ≤ left) (h1 : left ≤ 1048576) : l_szStep N x left = some (szF x.size left) := by
 unfold l_szStep Gx.Step.size
 unfold Gx.Step.ok at hok
 obtain ⟨q0, q1, q2, q3⟩ := hok
 exact sz_len h0 h1 q1

theorem p_szStepS {N : Nat} (hN : 67108864 < N) (l : List (Gx.Step)) (hl : l.length ≤ 9223372036854775807) (hok : ∀ e ∈ l, e.ok) {left : Int} (h0 : 0 ≤ left) (h1 : left ≤ 1048576) : l_szStepS N l left = some (szF (l.length + (l.map (fun e : Gx.Step => e.size)).sum) left) := by
 unfold l_szStepS
 refine sz_seq2 h0 h1 hl fun d g e w => ?_
 rw [w]
 have f := szF_nn e g h1
 refine sz_loop (l := l) (N := N) (f := (fun e : Gx.Step => e.size)) (fun p => rfl) (fun x hx c c0 c1 => ?_) g f.1 (by omega) (by omega)
 rw [p_szStep hN x (hok x hx) c0 c1]
 exact sz_ok

theorem p_szClue {N : Nat} (hN : 67108864 < N) (x : Gx.Clue) (hok : x.ok) {left : Int} (h0 : 0 ≤ left) (h1 : left ≤ 1048576) : l_szClue N x left = some (szF x.size left) := by
 unfold l_szClue Gx.Clue.size
 unfold Gx.Clue.ok at hok
 obtain ⟨q0, q1, q2⟩ := hok
 (repeat rw [Nat.add_assoc])
 rw [p_szStepS hN x.mPlay q1 q2 h0 h1]
 exact sz_end

theorem p_toStep {N : Nat} (hN : 67108864 < N) (x : Gx.Step) (h : x.size ≤ 1048576) : l_toStep N x = some x := by
 unfold l_toStep
 all_goals rfl

theorem p_toStepS {N : Nat} (hN : 67108864 < N) (l : List (Gx.Step)) (h : l.length + (l.map (fun e : Gx.Step => e.size)).sum ≤ 1048576) : l_toStepS N l = some l := by
 unfold l_toStepS
 rw [chk_pos ⟨by omega, by omega⟩, copy_loop (l := l) (N := N) (step := l_toStepS_L1 N l) (to := l_toStep N) (fun p => rfl) (fun x hx => p_toStep hN x (by have := mem_sum (fun e : Gx.Step => e.size) hx; (try dsimp only at this); omega)) (by omega) (by omega)]
 rfl

theorem p_toClue {N : Nat} (hN : 67108864 < N) (x : Gx.Clue) (h : x.size ≤ 1048576) : l_toClue N x = some x := by
 unfold l_toClue
 unfold Gx.Clue.size at h
 rw [p_toStepS hN x.mPlay (by omega), bnd_mk]
 all_goals rfl

theorem p_eqStep {N : Nat} (hN : 67108864 < N) (x y : Gx.Step) (h : x.size ≤ 4194304) : l_eqStep N x y = some (decide (x = y)) := by
 unfold l_eqStep
 unfold Gx.Step.size at h
 refine eq_fld (fun h e => h (by rw [e])) (fun e0 => ?_)
 refine eq_fld (fun h e => h (by rw [e])) (fun e1 => ?_)
 refine eq_fld (fun h e => h (by rw [e])) (fun e2 => ?_)
 refine eq_fld (fun h e => h (by rw [e])) (fun e3 => ?_)
 have : x = y := by cases x; cases y; simp_all
 rw [decide_eq_true this]

theorem p_eqStepS {N : Nat} (hN : 67108864 < N) (l m : List (Gx.Step)) (h : l.length + (l.map (fun e : Gx.Step => e.size)).sum ≤ 4194304) : l_eqStepS N l m = some (decide (l = m)) := by
 unfold l_eqStepS
 refine eq_fld (fun h e => h (by rw [e])) (fun e => ?_)
 exact eq_loop (eq := fun x y => l_eqStep N x y) (fun p => rfl) (fun x hx y => p_eqStep hN x y (by have := mem_sum (fun e : Gx.Step => e.size) hx; (try dsimp only at this); omega)) (by omega) (by omega) (by omega)

theorem p_eqClue {N : Nat} (hN : 67108864 < N) (x y : Gx.Clue) (h : x.size ≤ 4194304) : l_eqClue N x y = some (decide (x = y)) := by
 unfold l_eqClue
 unfold Gx.Clue.size at h
 refine eq_fld (fun h e => h (by rw [e])) (fun e0 => ?_)
 rw [p_eqStepS hN x.mPlay y.mPlay (by omega)]
 refine eq_sub (fun h e => h (by rw [e])) (fun e1 => ?_)
 have : x = y := by cases x; cases y; simp_all
 rw [decide_eq_true this]

theorem p_eqListed {N : Nat} (hN : 67108864 < N) (x y : Gx.Listed) (h : x.size ≤ 4194304) : l_eqListed N x y = some (decide (x = y)) := by
 unfold l_eqListed
 unfold Gx.Listed.size at h
 refine eq_fld (fun h e => h (by rw [e])) (fun e0 => ?_)
 refine eq_fld (fun h e => h (by rw [e])) (fun e1 => ?_)
 refine eq_fld (fun h e => h (by rw [e])) (fun e2 => ?_)
 refine eq_fld (fun h e => h (by rw [e])) (fun e3 => ?_)
 have : x = y := by cases x; cases y; simp_all
 rw [decide_eq_true this]

theorem p_eqMeaning {N : Nat} (hN : 67108864 < N) (x y : Gx.Meaning) (h : x.size ≤ 4194304) : l_eqMeaning N x y = some (decide (x = y)) := by
 unfold l_eqMeaning
 unfold Gx.Meaning.size at h
 refine eq_fld (fun h e => h (by rw [e])) (fun e0 => ?_)
 refine eq_fld (fun h e => h (by rw [e])) (fun e1 => ?_)
 have : x = y := by cases x; cases y; simp_all
 rw [decide_eq_true this]

theorem p_eqEvent {N : Nat} (hN : 67108864 < N) (x y : Gx.Event) (h : x.size ≤ 4194304) : l_eqEvent N x y = some (decide (x = y)) := by
 unfold l_eqEvent
 unfold Gx.Event.size at h
 refine eq_fld (fun h e => h (by rw [e])) (fun e0 => ?_)
 refine eq_fld (fun h e => h (by rw [e])) (fun e1 => ?_)
 refine eq_fld (fun h e => h (by rw [e])) (fun e2 => ?_)
 refine eq_fld (fun h e => h (by rw [e])) (fun e3 => ?_)
 refine eq_fld (fun h e => h (by rw [e])) (fun e4 => ?_)
 rw [p_eqGrid hN x.mGrid y.mGrid (by omega)]
 refine eq_sub (fun h e => h (by rw [e])) (fun e5 => ?_)
 rw [p_eqClue hN x.mClue y.mClue (by omega)]
 refine eq_sub (fun h e => h (by rw [e])) (fun e6 => ?_)
 rw [p_eqListed hN x.mListed y.mListed (by omega)]
 refine eq_sub (fun h e => h (by rw [e])) (fun e7 => ?_)
 rw [p_eqMeaning hN x.mMeaning y.mMeaning (by omega)]
 refine eq_sub (fun h e => h (by rw [e])) (fun e8 => ?_)
 have : x = y := by cases x; cases y; simp_all
 rw [decide_eq_true this]

theorem p_szClueS {N : Nat} (hN : 67108864 < N) (l : List (Gx.Clue)) (hl : l.length ≤ 9223372036854775807) (hok : ∀ e ∈ l, e.ok) {left : Int} (h0 : 0 ≤ left) (h1 : left ≤ 1048576) : l_szClueS N l left = some (szF (l.length + (l.map (fun e : Gx.Clue => e.size)).sum) left) := by
 unfold l_szClueS
 refine sz_seq2 h0 h1 hl fun d g e w => ?_
 rw [w]
 have f := szF_nn e g h1
 refine sz_loop (l := l) (N := N) (f := (fun e : Gx.Clue => e.size)) (fun p => rfl) (fun x hx c c0 c1 => ?_) g f.1 (by omega) (by omega)
 rw [p_szClue hN x (hok x hx) c0 c1]
 exact sz_ok

theorem p_toClueS {N : Nat} (hN : 67108864 < N) (l : List (Gx.Clue)) (h : l.length + (l.map (fun e : Gx.Clue => e.size)).sum ≤ 1048576) : l_toClueS N l = some l := by
 unfold l_toClueS
 rw [chk_pos ⟨by omega, by omega⟩, copy_loop (l := l) (N := N) (step := l_toClueS_L1 N l) (to := l_toClue N) (fun p => rfl) (fun x hx => p_toClue hN x (by have := mem_sum (fun e : Gx.Clue => e.size) hx; (try dsimp only at this); omega)) (by omega) (by omega)]
 rfl

theorem p_eqClueS {N : Nat} (hN : 67108864 < N) (l m : List (Gx.Clue)) (h : l.length + (l.map (fun e : Gx.Clue => e.size)).sum ≤ 4194304) : l_eqClueS N l m = some (decide (l = m)) := by
 unfold l_eqClueS
 refine eq_fld (fun h e => h (by rw [e])) (fun e => ?_)
 exact eq_loop (eq := fun x y => l_eqClue N x y) (fun p => rfl) (fun x hx y => p_eqClue hN x y (by have := mem_sum (fun e : Gx.Clue => e.size) hx; (try dsimp only at this); omega)) (by omega) (by omega) (by omega)

theorem p_eqEventS {N : Nat} (hN : 67108864 < N) (l m : List (Gx.Event)) (h : l.length + (l.map (fun e : Gx.Event => e.size)).sum ≤ 4194304) : l_eqEventS N l m = some (decide (l = m)) := by
 unfold l_eqEventS
 refine eq_fld (fun h e => h (by rw [e])) (fun e => ?_)
 exact eq_loop (eq := fun x y => l_eqEvent N x y) (fun p => rfl) (fun x hx y => p_eqEvent hN x y (by have := mem_sum (fun e : Gx.Event => e.size) hx; (try dsimp only at this); omega)) (by omega) (by omega) (by omega)

def mkStep (N : Nat) (k : Nat) (x : Gx.Step) : Gx.Step := (⟨((k : Nat) : Int), mkT N (k + 1), ((k + 1 + 1 : Nat) : Int), ((k + 1 + 1 + 1 : Nat) : Int)⟩ : Gx.Step)
def cnStep (x : Gx.Step) : Nat := 1 + 1 + 1 + 1
theorem cnStep_le (x : Gx.Step) : cnStep x ≤ 16 * (x.size + 1) := by
 skip
 simp only [cnStep, Gx.Step.size]
 omega
def mkClue (N : Nat) (k : Nat) (x : Gx.Clue) : Gx.Clue := (⟨((k : Nat) : Int), markL (mkStep N) cnStep x.mPlay (k + 1)⟩ : Gx.Clue)
def cnClue (x : Gx.Clue) : Nat := 1 + (x.mPlay.map cnStep).sum
theorem cnClue_le (x : Gx.Clue) : cnClue x ≤ 16 * (x.size + 1) := by
 have := sum16 (c := cnStep) (s := (fun e : Gx.Step => e.size)) (fun y => cnStep_le y) x.mPlay
 simp only [cnClue, Gx.Clue.size]
 omega
theorem p_markStepS {N : Nat} (hN : 67108864 < N) (l : List (Gx.Step)) (k : Nat) (h : k + (l.map cnStep).sum ≤ 67108864) : l_markStepS N l (k : Int) = some (markL (mkStep N) cnStep l k, ((k + (l.map cnStep).sum : Nat) : Int)) := by
 have pt := fun (k : Nat) (h : k ≤ 67108864) => p_markText hN h
 have hl := len_sum (c := cnStep) (fun y => by simp only [cnStep]; omega) l
 unfold l_markStepS
 rw [mark_loop (fun a k i => (a, k, i)) (fi := fun a k => (a, k)) (mkStep N) cnStep 67108864 l ?_ ?_ k h (by omega)]
 ·rfl
 ·intro a i x k hl hx hi hm hk
  have hg : getI a (i : Int) = some x := getI_nat hx
  have e : k + cnStep x = k + 1 + 1 + 1 + 1 := by unfold cnStep; omega
  rw [e] at hk ⊢
  unfold l_markStepS_L1
  simp (disch := omega) only [sel_pos, hg, bnd_mk, pt, getI_set, w64_nat, Int.toNat_natCast]
  rfl
 ·intro a k hl
  unfold l_markStepS_L1
  simp (disch := omega) only [sel_neg]
theorem p_heldStepS {N : Nat} (hN : 67108864 < N) (l : List (Gx.Step)) (k : Nat) (h : k + (l.map cnStep).sum ≤ 67108864) : l_heldStepS N (markL (mkStep N) cnStep l k) (k : Int) = some ((k + (l.map cnStep).sum : Nat) : Int) := by
 have pt := fun (k : Nat) (h : k ≤ 67108864) => p_markText hN h
 have hl := len_sum (c := cnStep) (fun y => by simp only [cnStep]; omega) l
 have hm0 := markL_len (mkStep N) cnStep l k
 unfold l_heldStepS
 rw [held_loop (fun k i => (k, i)) (fi := fun k => Cut.nx k) (mkStep N) cnStep 67108864 l k ?_ ?_ h (by omega)]
 ·rfl
 ·intro i x q hx hi hm hk hq
  have hg := getI_nat hx
  have e : q + cnStep x = q + 1 + 1 + 1 + 1 := by unfold cnStep; omega
  rw [e] at hq ⊢
  unfold l_heldStepS_L1
  simp (disch := omega) only [sel_pos, sel_neg, hg, bnd_mk, mkStep, pt, w64_nat, bne_self_eq_false, sel_false]
 ·intro k
  unfold l_heldStepS_L1
  simp (disch := omega) only [sel_neg]
theorem p_markClueS {N : Nat} (hN : 67108864 < N) (l : List (Gx.Clue)) (k : Nat) (h : k + (l.map cnClue).sum ≤ 67108864) : l_markClueS N l (k : Int) = some (markL (mkClue N) cnClue l k, ((k + (l.map cnClue).sum : Nat) : Int)) := by
 have pt := fun (k : Nat) (h : k ≤ 67108864) => p_markText hN h
 have hl := len_sum (c := cnClue) (fun y => by simp only [cnClue]; omega) l
 unfold l_markClueS
 rw [mark_loop (fun a k i => (a, k, i)) (fi := fun a k => (a, k)) (mkClue N) cnClue 67108864 l ?_ ?_ k h (by omega)]
 ·rfl
 ·intro a i x k hl hx hi hm hk
  have hg : getI a (i : Int) = some x := getI_nat hx
  have e : k + cnClue x = k + 1 + (x.mPlay.map cnStep).sum := by unfold cnClue; omega
  rw [e] at hk ⊢
  unfold l_markClueS_L1
  simp (disch := omega) only [sel_pos, hg, bnd_mk, pt, p_markStepS hN, getI_set, w64_nat, Int.toNat_natCast]
  rfl
 ·intro a k hl
  unfold l_markClueS_L1
  simp (disch := omega) only [sel_neg]
def mkEvent (N : Nat) (k : Nat) (x : Gx.Event) : Gx.Event := (⟨((k : Nat) : Int), ((k + 1 : Nat) : Int), ((k + 1 + 1 : Nat) : Int), ((k + 1 + 1 + 1 : Nat) : Int), mkT N (k + 1 + 1 + 1 + 1), (⟨((k + 1 + 1 + 1 + 1 + 1 : Nat) : Int), ((k + 1 + 1 + 1 + 1 + 1 + 1 : Nat) : Int), mkT N (k + 1 + 1 + 1 + 1 + 1 + 1 + 1)⟩ : Gx.Grid), (⟨((k + 1 + 1 + 1 + 1 + 1 + 1 + 1 + 1 : Nat) : Int), markL (mkStep N) cnStep x.mClue.mPlay (k + 1 + 1 + 1 + 1 + 1 + 1 + 1 + 1 + 1)⟩ : Gx.Clue), (⟨mkT N (k + 1 + 1 + 1 + 1 + 1 + 1 + 1 + 1 + 1 + (x.mClue.mPlay.map cnStep).sum), ((k + 1 + 1 + 1 + 1 + 1 + 1 + 1 + 1 + 1 + (x.mClue.mPlay.map cnStep).sum + 1 : Nat) : Int), ((k + 1 + 1 + 1 + 1 + 1 + 1 + 1 + 1 + 1 + (x.mClue.mPlay.map cnStep).sum + 1 + 1 : Nat) : Int), ((k + 1 + 1 + 1 + 1 + 1 + 1 + 1 + 1 + 1 + (x.mClue.mPlay.map cnStep).sum + 1 + 1 + 1 : Nat) : Int)⟩ : Gx.Listed), (⟨mkT N (k + 1 + 1 + 1 + 1 + 1 + 1 + 1 + 1 + 1 + (x.mClue.mPlay.map cnStep).sum + 1 + 1 + 1 + 1), ((k + 1 + 1 + 1 + 1 + 1 + 1 + 1 + 1 + 1 + (x.mClue.mPlay.map cnStep).sum + 1 + 1 + 1 + 1 + 1 : Nat) : Int)⟩ : Gx.Meaning)⟩ : Gx.Event)
def cnEvent (x : Gx.Event) : Nat := 1 + 1 + 1 + 1 + 1 + 1 + 1 + 1 + 1 + (x.mClue.mPlay.map cnStep).sum + 1 + 1 + 1 + 1 + 1 + 1
theorem cnEvent_le (x : Gx.Event) : cnEvent x ≤ 16 * (x.size + 1) := by
 have := sum16 (c := cnStep) (s := (fun e : Gx.Step => e.size)) (fun y => cnStep_le y) x.mClue.mPlay
 simp only [cnEvent, Gx.Event.size, Gx.Grid.size, Gx.Clue.size, Gx.Listed.size, Gx.Meaning.size]
 omega
theorem p_markEventS {N : Nat} (hN : 67108864 < N) (l : List (Gx.Event)) (k : Nat) (h : k + (l.map cnEvent).sum ≤ 67108864) : l_markEventS N l (k : Int) = some (markL (mkEvent N) cnEvent l k, ((k + (l.map cnEvent).sum : Nat) : Int)) := by
 have pt := fun (k : Nat) (h : k ≤ 67108864) => p_markText hN h
 have hl := len_sum (c := cnEvent) (fun y => by simp only [cnEvent]; omega) l
 unfold l_markEventS
 rw [mark_loop (fun a k i => (a, k, i)) (fi := fun a k => (a, k)) (mkEvent N) cnEvent 67108864 l ?_ ?_ k h (by omega)]
 ·rfl
 ·intro a i x k hl hx hi hm hk
  have hg : getI a (i : Int) = some x := getI_nat hx
  have e : k + cnEvent x = k + 1 + 1 + 1 + 1 + 1 + 1 + 1 + 1 + 1 + (x.mClue.mPlay.map cnStep).sum + 1 + 1 + 1 + 1 + 1 + 1 := by unfold cnEvent; omega
  rw [e] at hk ⊢
  unfold l_markEventS_L1
  simp (disch := omega) only [sel_pos, hg, bnd_mk, pt, p_markStepS hN, getI_set, w64_nat, Int.toNat_natCast]
  rfl
 ·intro a k hl
  unfold l_markEventS_L1
  simp (disch := omega) only [sel_neg]
theorem p_heldEventS {N : Nat} (hN : 67108864 < N) (l : List (Gx.Event)) (k : Nat) (h : k + (l.map cnEvent).sum ≤ 67108864) : l_heldEventS N (markL (mkEvent N) cnEvent l k) (k : Int) = some ((k + (l.map cnEvent).sum : Nat) : Int) := by
 have pt := fun (k : Nat) (h : k ≤ 67108864) => p_markText hN h
 have hl := len_sum (c := cnEvent) (fun y => by simp only [cnEvent]; omega) l
 have hm0 := markL_len (mkEvent N) cnEvent l k
 unfold l_heldEventS
 rw [held_loop (fun k i => (k, i)) (fi := fun k => Cut.nx k) (mkEvent N) cnEvent 67108864 l k ?_ ?_ h (by omega)]
 ·rfl
 ·intro i x q hx hi hm hk hq
  have hg := getI_nat hx
  have e : q + cnEvent x = q + 1 + 1 + 1 + 1 + 1 + 1 + 1 + 1 + 1 + (x.mClue.mPlay.map cnStep).sum + 1 + 1 + 1 + 1 + 1 + 1 := by unfold cnEvent; omega
  rw [e] at hq ⊢
  unfold l_heldEventS_L1
  simp (disch := omega) only [sel_pos, sel_neg, hg, bnd_mk, mkEvent, pt, p_heldStepS hN, w64_nat, bne_self_eq_false, sel_false]
 ·intro k
  unfold l_heldEventS_L1
  simp (disch := omega) only [sel_neg]
end Lw
end Go.Proofs
