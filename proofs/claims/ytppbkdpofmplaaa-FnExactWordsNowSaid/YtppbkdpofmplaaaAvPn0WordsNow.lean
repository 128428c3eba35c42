/- plain laws -/
import Derived.Test.YtppbkdpofmplaaaAvPhWordsNow
namespace Go.Proofs
open Go Go.Av
set_option maxRecDepth 100000
set_option maxHeartbeats 4000000
set_option linter.unusedVariables false
set_option linter.unusedSimpArgs false
namespace Lw
theorem p_s_l1In (N : Nat) (n a b : Int) : s_l1In N n a b = some (decide (a ≤ n ∧ n ≤ b)) := by
 unfold s_l1In
 rw [sel_ite]
 split <;> simp <;> omega
theorem p_i_InRange (N : Nat) (n a b : Int) : i_InRange N n a b = some (decide (a ≤ n ∧ n ≤ b)) := by
 unfold i_InRange
 rw [sel_ite]
 split <;> simp <;> omega
/-- a lower-case letter -/
def isLet (c : UInt8) : Bool := decide (97 ≤ c.toNat ∧ c.toNat ≤ 122)
theorem p_i_isLetter (N : Nat) (c : UInt8) : i_isLetter N (c.toNat : Int) = some (isLet c) := by
 unfold i_isLetter isLet
 rw [sel_ite]
 split
 ·rw [Option.some.injEq, decide_eq_decide]; omega
 ·rw [Option.some.injEq, eq_comm, decide_eq_false_iff_not]; omega
theorem p_i_those {N : Nat} (l : List (List UInt8)) (f : List UInt8 → Option Bool) (p : List UInt8 → Bool) (hf : ∀ x ∈ l, f x = some (p x)) (hl : l.length ≤ 137438953472) (hN : l.length < N) : i_those N l f = some (l.filter p) := by
 unfold i_those
 have := loop_filter (N := N) (l := l) (step := i_those_L1 N l f) p (fi := fun a => a) (fun i x a hx hi ha => by
  unfold i_those_L1
  simp only
  rw [sel_pos (by omega), getI_nat hx, bnd_mk, hf x (List.mem_of_getElem? hx), bnd_mk]
  cases p x
  ·rfl
  ·rw [sel_true, chk_pos (by simp only [List.length_cons, List.length_nil]; omega)]; rfl) (fun a => by
  unfold i_those_L1
  simp only
  rw [sel_neg (by omega)]) (by omega) hN
 rw [this, bnd_mk]
def isWord (s : List UInt8) : Bool := decide (1 ≤ s.length ∧ s.length ≤ 8) && s.all isLet
theorem p_i_IsWord {N : Nat} (hN : 67108864 < N) (s : List UInt8) : i_IsWord N s = some (isWord s) := by
 unfold i_IsWord i_InRange isWord
 by_cases h : 1 ≤ s.length ∧ s.length ≤ 8
 ·rw [sel_pos (by omega), bnd_mk, decide_eq_true (p := ((s.length : Int) ≤ 8)) (by omega), Bool.not_true, sel_false, loop_all (N := N) (l := s) isLet (b := false) (fun i c hc hi => by
   unfold i_IsWord_L1
   rw [sel_pos (by omega), chk_pos (by omega), byteI_nat hc, p_i_isLetter, bnd_mk]
   cases isLet c <;> rfl) (by unfold i_IsWord_L1; rw [sel_neg (by omega)]) (by omega) (by omega), decide_eq_true h]
  cases s.all isLet <;> rfl
 ·rw [decide_eq_false h, Bool.false_and, sel_ite]
  split
  ·rw [bnd_mk, decide_eq_false (p := ((s.length : Int) ≤ 8)) (by omega)]; rfl
  ·rfl
theorem p_s_IsWord {N : Nat} (hN : 67108864 < N) (s : List UInt8) : s_IsWord N s = some (isWord s) := by
 unfold s_IsWord s_l1In isWord
 by_cases h : 1 ≤ s.length ∧ s.length ≤ 8
 ·rw [sel_pos (by omega), bnd_mk, decide_eq_true (p := ((s.length : Int) ≤ 8)) (by omega), Bool.not_true, sel_false, loop_all (N := N) (l := s) isLet (b := false) (fun i c hc hi => by
   unfold s_IsWord_L1
   rw [sel_pos (by omega), chk_pos (by omega), byteI_nat hc]
   unfold isLet
   by_cases h1 : 97 ≤ c.toNat
   ·rw [sel_neg (by omega), chk_pos (by omega)]
    by_cases h2 : c.toNat ≤ 122
    ·rw [sel_neg (by omega), if_pos (by simp [h1, h2])]
    ·rw [sel_pos (by omega), if_neg (by simp [h2])]
   ·rw [sel_pos (by omega), if_neg (by simp [h1])]) (by unfold s_IsWord_L1; rw [sel_neg (by omega)]) (by omega) (by omega), decide_eq_true h]
  cases s.all isLet <;> rfl
 ·rw [decide_eq_false h, Bool.false_and, sel_ite]
  split
  ·rw [bnd_mk, decide_eq_false (p := ((s.length : Int) ≤ 8)) (by omega)]; rfl
  ·rfl
def beforeW (a b : List UInt8) : Bool := if ((a.length : Int) != (b.length : Int)) = true then decide ((a.length : Int) < (b.length : Int)) else Op.bytesLess a b
theorem p_i_BeforeWord (N : Nat) (a b : List UInt8) : i_BeforeWord N a b = some (beforeW a b) := by
 unfold i_BeforeWord beforeW
 cases ((a.length : Int) != (b.length : Int)) <;> rfl
theorem p_s_BeforeWord (N : Nat) (a b : List UInt8) : s_BeforeWord N a b = some (beforeW a b) := p_i_BeforeWord N a b
def inR (n a b : Int) : Bool := decide (a ≤ n ∧ n ≤ b)
theorem p_i_inR (N : Nat) (n a b : Int) : i_InRange N n a b = some (inR n a b) := p_i_InRange N n a b
theorem p_s_inR (N : Nat) (n a b : Int) : s_l1In N n a b = some (inR n a b) := p_s_l1In N n a b
def okListed (l : List Gx.Listed) (i : Nat) (x : Gx.Listed) : Bool :=
 (decide (i = 0) || beforeW ((l[i - 1]?).map (·.mWord) |>.getD []) x.mWord) && (isWord x.mWord && (inR x.mFrom 0 x.mUntil && (!decide (x.mUntil > 1000) && inR x.mScore 0 99)))
def isList (l : List Gx.Listed) : Bool := decide (l.length ≤ 40) && allI (okListed l) l 0
theorem prev_get {α : Type} {l : List α} {i : Nat} {x : α} (h : l[i]? = some x) (h0 : i ≠ 0) : ∃ y, l[i - 1]? = some y := ⟨l[i - 1]'(by have := (List.getElem?_eq_some_iff.1 h).1; omega), List.getElem?_eq_getElem _⟩
theorem w64_pred {i : Nat} (h0 : i ≠ 0) (h : i ≤ 4611686018427387904) : w64 ((i : Int) - 1) = ((i - 1 : Nat) : Int) := by rw [w64_in (by omega) (by omega)]; omega
theorem okListed_zero {l : List Gx.Listed} {i : Nat} {x : Gx.Listed} (h0 : i = 0) : okListed l i x = (isWord x.mWord && (inR x.mFrom 0 x.mUntil && (!decide (x.mUntil > 1000) && inR x.mScore 0 99))) := by unfold okListed; rw [decide_eq_true h0]; rfl
theorem okListed_pos {l : List Gx.Listed} {i : Nat} {x y : Gx.Listed} (h0 : i ≠ 0) (hy : l[i - 1]? = some y) : okListed l i x = (beforeW y.mWord x.mWord && (isWord x.mWord && (inR x.mFrom 0 x.mUntil && (!decide (x.mUntil > 1000) && inR x.mScore 0 99)))) := by unfold okListed; rw [decide_eq_false h0, hy]; rfl
theorem p_i_IsList {N : Nat} (hN : 67108864 < N) (l : List Gx.Listed) : i_IsList N l = some (isList l) := by
 unfold i_IsList isList
 by_cases h : l.length ≤ 40
 ·rw [sel_neg (by omega), decide_eq_true h, loop_allI (N := N) (γ := Unit) (l := l) (okListed l) (b := false) (fun i x hx hi => by
   unfold i_IsList_L1
   rw [sel_pos (by omega), getI_nat hx, bnd_mk]
   by_cases h0 : i = 0
   ·rw [sel_neg (by omega), okListed_zero h0]
    simp only [p_i_IsWord hN, p_i_inR, bnd_mk]
    cases isWord x.mWord <;> cases inR x.mFrom 0 x.mUntil <;> cases decide (x.mUntil > 1000) <;> cases inR x.mScore 0 99 <;> rfl
   ·obtain ⟨y, hy⟩ := prev_get hx h0
    rw [sel_pos (by omega), okListed_pos h0 hy, w64_pred h0 (by omega), getI_nat hy]
    simp only [p_i_IsWord hN, p_i_inR, p_i_BeforeWord, bnd_mk]
    cases beforeW y.mWord x.mWord <;> cases isWord x.mWord <;> cases inR x.mFrom 0 x.mUntil <;> cases decide (x.mUntil > 1000) <;> cases inR x.mScore 0 99 <;> rfl) (by unfold i_IsList_L1; rw [sel_neg (by omega)]) (by omega) (by omega)]
  cases allI (okListed l) l 0 <;> rfl
 ·rw [sel_pos (by omega), decide_eq_false h]; rfl
theorem p_s_IsList {N : Nat} (hN : 67108864 < N) (l : List Gx.Listed) (hl : l.length ≤ 1048576) : s_IsList N l = some (isList l) := by
 unfold s_IsList isList
 rw [loop_allI (N := N) (γ := Unit) (l := l) (okListed l) (b := false) (fun i x hx hi => by
   unfold s_IsList_L1
   rw [sel_pos (by omega), getI_nat hx, bnd_mk]
   have e : inR x.mFrom 0 x.mUntil = (!decide (x.mFrom < 0) && !decide (x.mFrom > x.mUntil)) := by
    unfold inR
    by_cases h1 : x.mFrom < 0 <;> by_cases h2 : x.mFrom > x.mUntil <;> simp [h1, h2] <;> omega
   by_cases h0 : i = 0
   ·rw [okListed_zero h0, e, decide_eq_false (p := ((i : Int) > 0)) (by omega)]
    simp only [p_s_IsWord hN, p_s_inR, bnd_mk]
    cases isWord x.mWord <;> cases decide (x.mFrom < 0) <;> cases decide (x.mFrom > x.mUntil) <;> cases decide (x.mUntil > 1000) <;> cases inR x.mScore 0 99 <;> rfl
   ·obtain ⟨y, hy⟩ := prev_get hx h0
    rw [okListed_pos h0 hy, e, decide_eq_true (p := ((i : Int) > 0)) (by omega), w64_pred h0 (by omega), getI_nat hy]
    simp only [p_s_IsWord hN, p_s_inR, p_s_BeforeWord, bnd_mk]
    cases beforeW y.mWord x.mWord <;> cases isWord x.mWord <;> cases decide (x.mFrom < 0) <;> cases decide (x.mFrom > x.mUntil) <;> cases decide (x.mUntil > 1000) <;> cases inR x.mScore 0 99 <;> rfl) (by unfold s_IsList_L1; rw [sel_neg (by omega)]) (by omega) (by omega)]
 by_cases h : l.length ≤ 40
 ·rw [decide_eq_true h, decide_eq_true (p := ((l.length : Int) ≤ 40)) (by omega)]
  cases allI (okListed l) l 0 <;> rfl
 ·rw [decide_eq_false h, decide_eq_false (p := ((l.length : Int) ≤ 40)) (by omega)]
  cases allI (okListed l) l 0 <;> rfl
def nbr (C n i j : Nat) : Prop := (0 < i % C ∧ j + 1 = i) ∨ (i % C + 1 < C ∧ j = i + 1) ∨ (C ≤ i ∧ j + C = i) ∨ (i + C < n ∧ j = i + C)
inductive Conn (C n : Nat) (w : Nat → Bool) (a : Nat) : Nat → Prop
 | refl : Conn C n w a a
 | step {b c : Nat} : Conn C n w a b → nbr C n b c → w c = true → Conn C n w a c
theorem Conn.trans {C n : Nat} {w : Nat → Bool} {a b c : Nat} (h1 : Conn C n w a b) (h2 : Conn C n w b c) : Conn C n w a c := by
 induction h2 with
 | refl => exact h1
 | step _ hn hw ih => exact .step ih hn hw
theorem Conn.cons {C n : Nat} {w : Nat → Bool} {a b c : Nat} (hn : nbr C n a b) (hw : w b = true) (h2 : Conn C n w b c) : Conn C n w a c := Conn.trans (.step .refl hn hw) h2
theorem mark_house {N : Nat} (hN : 67108864 < N) (g : Gx.House) (hs : g.size ≤ 4194303) : ∃ a b c d e f i, ∃ n : Nat, l_markHouse N g 1 = some (a, b, c, d, e, f, i, (n : Int)) := by
 have hc := cntHouse_le g 1
 exact ⟨_, _, _, _, _, _, _, _, p_markHouse hN g 1 (by omega)⟩
theorem foldl_pick {α β : Type} (p : α → Bool) (f : α → β) : ∀ (l : List α) (a : List β), l.foldl (fun a x => if p x = true then a ++ [f x] else a) a = a ++ (l.filter p).map f
 | [], a => by simp
 | x :: r, a => by
  simp only [List.foldl_cons, foldl_pick p f r, List.filter_cons]
  split <;> simp
theorem loop_pick {α β γ : Type} {l : List α} {step : List β × Int → Option (Sum (List β × Int) γ)} (p : α → Bool) (f : α → β) {fi : List β → γ} {N : Nat}
  (hs : ∀ i x a, l[i]? = some x → i < l.length → a.length ≤ i → step (a, (i : Int)) = some (.inl (if p x = true then a ++ [f x] else a, w64 ((i : Int) + 1)))) (he : ∀ a, step (a, (l.length : Int)) = some (.inr (fi a)))
  (hl : l.length ≤ 4611686018427387904) (hN : l.length < N) : loopN step N ([], 0) = some (fi ((l.filter p).map f)) := by
 have := loop_fold (N := N) (step := step) (fun i a => (a, (i : Int))) l (fun a x => if p x = true then a ++ [f x] else a) fi (fun i a => a.length ≤ i) (a := []) (Nat.le_refl _) (fun a _ => he a)
  (fun i a x ha hx hi => ⟨by rw [hs i x a hx hi ha, w64_nat (by omega)], by split <;> (try simp) <;> omega⟩) hN
 rw [show ([], (0 : Int)) = (([] : List β), ((0 : Nat) : Int)) from rfl, this, foldl_pick]
 rfl
def wordsAt (l : List Gx.Listed) (t : Int) : List (List UInt8) := if isList l = true then (l.filter fun x => inR t x.mFrom x.mUntil).map (fun x => x.mWord) else []
theorem p_i_WordsAt {N : Nat} (hN : 67108864 < N) (l : List Gx.Listed) (t : Int) (hl : l.length ≤ 1048576) : i_WordsAt N l t = some (wordsAt l t) := by
 unfold i_WordsAt wordsAt
 rw [p_i_IsList hN, bnd_mk]
 cases isList l with
 | false => rfl
 | true =>
  simp only [Bool.not_true, sel_false]
  rw [loop_pick (N := N) (l := l) (fun x => inR t x.mFrom x.mUntil) (fun x => x.mWord) (fi := id) (fun i x a hx hi ha => by
   unfold i_WordsAt_L1
   simp only
   rw [sel_pos (by omega), getI_nat hx, bnd_mk, p_i_inR, bnd_mk, chk_pos (by simp; omega)]
   cases inR t x.mFrom x.mUntil <;> rfl) (fun a => by unfold i_WordsAt_L1; rw [sel_neg (by simp)]; rfl) (by omega) (by omega), bnd_mk]
  rfl
theorem p_s_WordsAt {N : Nat} (hN : 67108864 < N) (l : List Gx.Listed) (t : Int) (hl : l.length ≤ 1048576) : s_WordsAt N l t = some (wordsAt l t) := by
 unfold s_WordsAt wordsAt
 cases hi : isList l with
 | false =>
  obtain ⟨M, rfl⟩ : ∃ M, N = M + 1 := ⟨N - 1, by omega⟩
  have e : s_WordsAt_L1 (M + 1) l t ([], 0) = some (.inr []) := by
   unfold s_WordsAt_L1
   rw [p_s_IsList hN l hl, hi]
   cases decide ((0 : Int) < (l.length : Int)) <;> rfl
  simp only [loopN, e]
  rfl
 | true =>
  rw [loop_pick (N := N) (l := l) (fun x => inR t x.mFrom x.mUntil) (fun x => x.mWord) (fi := id) (fun i x a hx hi' ha => by
   unfold s_WordsAt_L1
   simp only
   rw [sel_pos (by omega), p_s_IsList hN l hl, hi, bnd_mk, getI_nat hx, bnd_mk, bnd_mk, p_s_inR, bnd_mk, bnd_mk, chk_pos (by simp; omega)]
   cases inR t x.mFrom x.mUntil <;> rfl) (fun a => by unfold s_WordsAt_L1; rw [sel_neg (by simp)]; rfl) (by omega) (by omega), bnd_mk]
  rfl
def lastUse (l : List Gx.Used) (w : List UInt8) : Int := l.foldl (fun a x => if (x.mWord == w) = true then max a x.mIssue else a) 0
theorem lastUse_in (l : List Gx.Used) (w : List UInt8) (h : ∀ u ∈ l, u.mIssue ≤ 9223372036854775807) : 0 ≤ lastUse l w ∧ lastUse l w ≤ 9223372036854775807 := by
 have key : ∀ (r : List Gx.Used) (a : Int), (∀ u ∈ r, u.mIssue ≤ 9223372036854775807) → 0 ≤ a → a ≤ 9223372036854775807 → 0 ≤ r.foldl (fun a x => if (x.mWord == w) = true then max a x.mIssue else a) a ∧ r.foldl (fun a x => if (x.mWord == w) = true then max a x.mIssue else a) a ≤ 9223372036854775807 := by
  intro r
  induction r with
  | nil => intro a _ h1 h2; exact ⟨h1, h2⟩
  | cons u r ih =>
   intro a hr h1 h2
   have h3 := hr u (by simp)
   simp only [List.foldl_cons]
   refine ih _ (fun y hy => hr y (by simp [hy])) ?_ ?_ <;> (split <;> omega)
 exact key l 0 h (by omega) (by omega)
theorem p_i_LastUse {N : Nat} (hN : 67108864 < N) (l : List Gx.Used) (w : List UInt8) (hl : l.length ≤ 1048576) : i_LastUse N l w = some (lastUse l w) := by
 unfold i_LastUse
 have := loop_fold (N := N) (step := i_LastUse_L1 N l w) (fun i (a : Int) => (a, (i : Int))) l (fun a x => if (x.mWord == w) = true then max a x.mIssue else a) id (fun _ _ => True) (a := 0) trivial
  (fun a _ => by unfold i_LastUse_L1; rw [sel_neg (by simp)]; rfl)
  (fun i a x _ hx hi => ⟨by
   unfold i_LastUse_L1
   simp only
   rw [sel_pos (by omega), getI_nat hx, bnd_mk, w64_nat (by omega)]
   cases x.mWord == w <;> rfl, trivial⟩) (by omega)
 rw [show ((0 : Int), (0 : Int)) = ((0 : Int), ((0 : Nat) : Int)) from rfl, this, bnd_mk]
 rfl
theorem p_s_LastUse {N : Nat} (hN : 67108864 < N) (l : List Gx.Used) (w : List UInt8) (hl : l.length ≤ 1048576) : s_LastUse N l w = some (lastUse l w) := by
 unfold s_LastUse
 have := loop_fold (N := N) (step := s_LastUse_L1 N l w) (fun i (a : Int) => (a, (i : Int))) l (fun a x => if (x.mWord == w) = true then max a x.mIssue else a) id (fun _ _ => True) (a := 0) trivial
  (fun a _ => by unfold s_LastUse_L1; rw [sel_neg (by simp)]; rfl)
  (fun i a x _ hx hi => ⟨by
   unfold s_LastUse_L1 s_Max
   simp only
   rw [sel_pos (by omega), getI_nat hx, bnd_mk, bnd_mk, w64_nat (by omega)]
   cases x.mWord == w with
   | false => rfl
   | true =>
    simp only [sel_true, if_true]
    by_cases hm : x.mIssue > a
    ·rw [sel_pos hm, bnd_mk, Int.max_eq_right (by omega)]
    ·rw [sel_neg hm, bnd_mk, Int.max_eq_left (by omega)], trivial⟩) (by omega)
 rw [show ((0 : Int), (0 : Int)) = ((0 : Int), ((0 : Nat) : Int)) from rfl, this, bnd_mk]
 rfl
def mayUse (l : List Gx.Used) (w : List UInt8) (n gap : Int) : Bool := inR n 1 999 && (inR gap 0 999 && (lastUse l w == 0 || decide (lastUse l w < n - gap)))
theorem p_i_MayUse {N : Nat} (hN : 67108864 < N) (l : List Gx.Used) (w : List UInt8) (n gap : Int) (hl : l.length ≤ 1048576) (hu : ∀ u ∈ l, u.mIssue ≤ 9223372036854775807) : i_MayUse N l w n gap = some (mayUse l w n gap) := by
 have hr := lastUse_in l w hu
 unfold i_MayUse mayUse
 rw [p_i_LastUse hN l w hl, bnd_mk, p_i_inR, bnd_mk]
 cases h1 : inR n 1 999 with
 | false => rfl
 | true =>
  have h2 : 1 ≤ n ∧ n ≤ 999 := by simpa [inR] using h1
  rw [p_i_inR, bnd_mk, w64_in (n := n - lastUse l w) (by omega) (by omega)]
  have e : decide (n - lastUse l w > gap) = decide (lastUse l w < n - gap) := by rw [Bool.eq_iff_iff]; simp only [decide_eq_true_eq]; omega
  rw [e]
  cases inR gap 0 999 <;> cases lastUse l w == 0 <;> rfl
theorem p_s_MayUse {N : Nat} (hN : 67108864 < N) (l : List Gx.Used) (w : List UInt8) (n gap : Int) (hl : l.length ≤ 1048576) : s_MayUse N l w n gap = some (mayUse l w n gap) := by
 unfold s_MayUse mayUse
 rw [p_s_inR, bnd_mk]
 cases h1 : inR n 1 999 with
 | false => rfl
 | true =>
  have h2 : 1 ≤ n ∧ n ≤ 999 := by simpa [inR] using h1
  rw [p_s_inR, bnd_mk, p_s_LastUse hN l w hl, bnd_mk]
  cases h3 : inR gap 0 999 with
  | false => rfl
  | true =>
   have h4 : 0 ≤ gap ∧ gap ≤ 999 := by simpa [inR] using h3
   rw [w64_in (n := n - gap) (by omega) (by omega)]
   cases lastUse l w == 0 <;> rfl
def wordsNow (h : Gx.House) : List (List UInt8) := (wordsAt h.mList h.mNow).filter fun w => mayUse h.mUses w ((h.mIssues.length + 1 : Nat) : Int) 2
theorem sum_filter {α : Type} (p : α → Bool) (f : α → Nat) : ∀ l : List α, ((l.filter p).map f).sum ≤ (l.map f).sum
 | [] => Nat.le_refl _
 | x :: r => by
  have := sum_filter p f r
  simp only [List.filter_cons, List.map_cons, List.sum_cons]
  split
  ·simp only [List.map_cons, List.sum_cons]; omega
  ·omega
theorem sum_le_sum {α : Type} {f g : α → Nat} (h : ∀ x, f x ≤ g x) : ∀ l : List α, (l.map f).sum ≤ (l.map g).sum
 | [] => Nat.le_refl _
 | x :: r => by have := sum_le_sum h r; have := h x; simp only [List.map_cons, List.sum_cons]; omega
theorem wordsAt_size (l : List Gx.Listed) (t : Int) : (wordsAt l t).length ≤ l.length ∧ ((wordsAt l t).map (fun e : List UInt8 => e.length)).sum ≤ (l.map (fun e : Gx.Listed => e.size)).sum := by
 unfold wordsAt
 split
 ·refine ⟨by simp only [List.length_map]; exact List.length_filter_le _ _, ?_⟩
  rw [List.map_map]
  refine Nat.le_trans (sum_filter _ _ l) (sum_le_sum (fun x => ?_) l)
  unfold Gx.Listed.size
  simp
 ·exact ⟨Nat.zero_le _, Nat.zero_le _⟩
theorem wordsNow_size (h : Gx.House) : (wordsNow h).length ≤ h.mList.length ∧ ((wordsNow h).map (fun e : List UInt8 => e.length)).sum ≤ (h.mList.map (fun e : Gx.Listed => e.size)).sum := by
 have h1 := wordsAt_size h.mList h.mNow
 exact ⟨Nat.le_trans (List.length_filter_le _ _) h1.1, Nat.le_trans (sum_filter _ _ _) h1.2⟩
theorem p_i_WordsNow {N : Nat} (hN : 67108864 < N) (h : Gx.House) (hs : h.size ≤ 1048576) (hu : ∀ u ∈ h.mUses, u.mIssue ≤ 9223372036854775807) : i_WordsNow N h = some (wordsNow h) := by
 have hz := wordsAt_size h.mList h.mNow
 unfold Gx.House.size at hs
 unfold i_WordsNow wordsNow
 rw [p_i_WordsAt hN _ _ (by omega), bnd_mk, p_i_those (wordsAt h.mList h.mNow) _ (fun w => mayUse h.mUses w ((h.mIssues.length + 1 : Nat) : Int) 2) (fun w _ => by
  unfold i_WordsNow_1
  rw [w64_nat (by omega), p_i_MayUse hN _ _ _ _ (by omega) hu, bnd_mk]) (by omega) (by omega), bnd_mk]
theorem p_s_WordsNow {N : Nat} (hN : 67108864 < N) (h : Gx.House) (hs : h.size ≤ 1048576) : s_WordsNow N h = some (wordsNow h) := by
 have hz := wordsAt_size h.mList h.mNow
 unfold Gx.House.size at hs
 unfold s_WordsNow wordsNow
 rw [p_s_WordsAt hN _ _ (by omega), bnd_mk]
 have := loop_filter (N := N) (l := wordsAt h.mList h.mNow) (step := s_WordsNow_L1 N (wordsAt h.mList h.mNow) h) (fun w => mayUse h.mUses w ((h.mIssues.length + 1 : Nat) : Int) 2) (fi := fun a => a) (fun i x a hx hi ha => by
  unfold s_WordsNow_L1
  simp only
  rw [sel_pos (by omega), getI_nat hx, bnd_mk, w64_nat (by omega), p_s_MayUse hN _ _ _ _ (by omega), bnd_mk, bnd_mk, chk_pos (by simp; omega)]
  cases mayUse h.mUses x ((h.mIssues.length + 1 : Nat) : Int) 2 <;> rfl) (fun a => by unfold s_WordsNow_L1; rw [sel_neg (by simp)]) (by omega) (by omega)
 rw [this, bnd_mk]
theorem marks_strings {N : Nat} (hN : 67108864 < N) (g : List (List UInt8)) (hs : g.length ≤ 1048576) : ∃ a, ∃ n : Nat, l_markStringS N g 1 = some (a, (n : Int)) ∧ l_heldStringS N a 1 = some (n : Int) := by
 have hc := sum16c (c := cnString) (fun y => by unfold cnString; omega) g
 exact ⟨_, _, p_markStringS hN g 1 (by omega), p_heldStringS hN g 1 (by omega)⟩
theorem p_FnExactWordsNow {N : Nat} (hN : 67108864 < N) (x : Gx.House) (hok : x.ok) : l_FnExactWordsNow N x = some true := by
 have hu : ∀ u ∈ x.mUses, u.mIssue ≤ 9223372036854775807 := by
  intro u hu
  unfold Gx.House.ok at hok
  obtain ⟨_, _, _, _, _, _, _, _, h, _⟩ := hok
  have := (h u hu).2
  unfold Gx.inR at this
  omega
 unfold l_FnExactWordsNow
 rw [p_szHouse hN x hok (by omega) (by omega), bnd_mk, sel_ite]
 split
 ·rfl
 ·rename_i h
  have hs : x.size ≤ 1048576 := by unfold szF at h; split at h <;> omega
  have hz := wordsNow_size x
  have hs' := hs
  unfold Gx.House.size at hs'
  rw [p_toHouse hN x hs]
  obtain ⟨a, b, c, d, e, f, i, m, hm⟩ := mark_house hN x (by omega)
  obtain ⟨a', m', hm', hh⟩ := marks_strings hN (wordsNow x) (by omega)
  have hq := p_eqStringS hN (wordsNow x) (wordsNow x) (by omega)
  simp only [bnd_mk, p_i_WordsNow hN x hs hu, p_s_WordsNow hN x hs, p_eqHouse hN x x (by omega), hq, hm, hm', hh, bne_self_eq_false, sel_false, decide_true, Bool.not_true, sel_neg (show ¬ ((m : Int) < 0) by omega), sel_neg (show ¬ ((m' : Int) < 0) by omega)]
end Lw
end Go.Proofs
