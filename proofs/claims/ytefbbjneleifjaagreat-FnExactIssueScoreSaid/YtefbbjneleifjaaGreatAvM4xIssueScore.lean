/- plain laws -/
import Derived.Test.YtefbbjneleifjaaGreatAvM3xIssueScore
namespace Go.Proofs
open Go Go.Av
set_option maxRecDepth 100000
set_option maxHeartbeats 4000000
set_option linter.unusedVariables false
set_option linter.unusedSimpArgs false
namespace Lw
theorem byte_get {f : List UInt8} {n : Nat} (h : n < f.length) : f[n]? = some (f.getD n 0) := by
  rw [List.getD_eq_getElem?_getD, List.getElem?_eq_getElem h]; rfl
theorem sub_one {f : List UInt8} {n : Nat} (h : n < f.length) : sub f (n : Int) ((n + 1 : Nat) : Int) = [f.getD n 0] := by
  unfold sub
  have e : (((n + 1 : Nat) : Int) - (n : Int)).toNat = 1 := by omega
  have hx := byte_get h
  obtain ⟨h1, h2⟩ := List.getElem?_eq_some_iff.1 hx
  rw [e, Int.toNat_natCast, List.drop_eq_getElem_cons h1, h2]
  rfl
theorem patterns_get {g : Gx.Grid} {f : List UInt8} (hf : isFill g f = true) {i : Nat} {s : Gx.Slot} (hs : (slots g)[i]? = some s) : (patterns g f)[i]? = some (readL f (cellsL g s)) := by
  unfold patterns
  rw [if_pos hf, List.getElem?_map, hs]; rfl
theorem p_s_SlotPattern_loop {N : Nat} (hN : 1048577 < N) {g : Gx.Grid} {R C : Nat} (D : Dims g R C) {s : Gx.Slot} {c : Nat} (S : SlotIn g R C s c) (f : List UInt8) (hl : f.length = R * C) : loopN (s_SlotPattern_L1 N (cellsL g s) f) N ([], 0) = some (readL f (cellsL g s)) := by
  have h6 := S.small D
  have h36 := rc36 D.r2.2 D.c2.2
  have hlen := cellsL_len g s
  have := loop_map (N := N) (l := cellsL g s) (step := s_SlotPattern_L1 N (cellsL g s) f) (fun c => f.getD c.toNat 0) (fi := fun a => a) (fun i x a hx hi ha => by
    have hm := cellsL_in D S x (List.mem_of_getElem? hx)
    obtain ⟨n, rfl⟩ : ∃ n : Nat, x = (n : Int) := ⟨x.toNat, by omega⟩
    unfold s_SlotPattern_L1
    simp only
    rw [sel_pos (by omega), getI_nat hx, bnd_mk, bnd_mk, w64_nat (i := n) (by omega), chk_pos ⟨by omega, by omega, by omega⟩, sub_one (by omega), chk_pos (by simp only [List.length_cons, List.length_nil]; omega)]
    rfl) (fun a => by
    unfold s_SlotPattern_L1
    simp only
    rw [sel_neg (by omega)]) (by omega) (by omega)
  exact this
/-- the pattern of a slot by its index -/
def patAt (g : Gx.Grid) (f : List UInt8) (i : Int) : List UInt8 := if 0 ≤ i then (patterns g f).getD i.toNat [] else []
theorem patterns_len {g : Gx.Grid} {f : List UInt8} (hf : isFill g f = true) : (patterns g f).length = (slots g).length := by
  unfold patterns; rw [if_pos hf, List.length_map]
theorem p_s_SlotPattern {N : Nat} (hN : 1048577 < N) (g : Gx.Grid) (f : List UInt8) (hg : g.mCells.length ≤ 1048576) (i : Int) : s_SlotPattern N g f i = some (patAt g f i) := by
  unfold s_SlotPattern patAt
  have h72 := slots_len g
  rw [p_s_SlotsOf hN g hg, bnd_mk, p_s_IsFill hN, bnd_mk, sel_not]
  cases hf : isFill g f with
  | false =>
    have : patterns g f = [] := by unfold patterns; rw [hf]; rfl
    rw [this, sel_false]
    split <;> simp
  | true =>
    obtain ⟨G, hl⟩ := isFill_ok hf
    obtain ⟨R, C, D⟩ := G.dims
    rw [sel_true, p_s_l1In, bnd_mk, sel_not, sel_ite, w64_in (by omega) (by omega)]
    have hpl := patterns_len hf
    by_cases hi : 0 ≤ i ∧ i ≤ ((slots g).length : Int) - 1
    · rw [if_pos hi, if_pos hi.1]
      obtain ⟨n, rfl⟩ : ∃ n : Nat, i = (n : Int) := ⟨i.toNat, by omega⟩
      have hx : (slots g)[n]? = some (slots g)[n] := List.getElem?_eq_getElem (by omega)
      generalize (slots g)[n] = s at hx
      have hm := List.mem_of_getElem? hx
      obtain ⟨c, S⟩ := slots_in D hm
      rw [getI_nat hx, bnd_mk, p_s_CellsOf hN D hg hm, bnd_mk, p_s_SlotPattern_loop hN D S f (by rw [hl, D.len]), bnd_mk]
      rw [Int.toNat_natCast, List.getD_eq_getElem?_getD, patterns_get hf hx]; rfl
    · rw [if_neg hi]
      split
      · have : i.toNat ≥ (patterns g f).length := by omega
        rw [List.getD_eq_getElem?_getD, List.getElem?_eq_none this]; rfl
      · rfl
def isOpen (s : List UInt8) : Bool := s.any (· == 63)
def openN (s : List UInt8) : Nat := (s.filter (· == 63)).length
theorem openN_zero (s : List UInt8) : (((openN s : Nat) : Int) == 0) = !isOpen s := by
  unfold openN isOpen
  rw [Bool.eq_iff_iff]
  simp only [beq_iff_eq, Bool.not_eq_true', List.any_eq_false]
  constructor
  · intro h c hc hq
    have : c ∈ s.filter (· == 63) := List.mem_filter.2 ⟨hc, by simpa using hq⟩
    have := List.length_pos_of_mem this
    omega
  · intro h
    have : s.filter (· == 63) = [] := by
      rw [List.filter_eq_nil_iff]
      intro c hc hq; exact h c hc (by simpa using hq)
    rw [this]; rfl
theorem foldl_count (p : UInt8 → Bool) : ∀ (l : List UInt8) (n : Int), l.foldl (fun a c => if p c = true then a + 1 else a) n = n + (l.filter p).length
  | [], n => by simp
  | c :: r, n => by
    simp only [List.foldl_cons, foldl_count p r, List.filter_cons]
    split <;> simp <;> omega
theorem p_i_openIn {N : Nat} (s : List UInt8) (hs : s.length ≤ 274877906944) (hN : s.length < N) : i_openIn N s = some (openN s : Int) := by
  unfold i_openIn openN
  have key := loop_fold (N := N) (step := i_openIn_L1 N s) (fun i a => (a, (i : Int))) s (fun (a : Int) (c : UInt8) => if (c == 63) = true then a + 1 else a) (fun a => a) (fun i a => 0 ≤ a ∧ a ≤ i) (a := 0) ⟨by omega, by omega⟩ (fun a ha => by
    unfold i_openIn_L1
    simp only
    rw [sel_neg (by omega)]) (fun i a c ha hc hi => by
    unfold i_openIn_L1
    simp only
    rw [sel_pos (by omega), chk_pos ⟨by omega, by omega⟩, byteI_nat hc, eq63, w64_nat (by omega), w64_in (by omega) (by omega)]
    cases c == 63
    · exact ⟨rfl, by simp; omega⟩
    · exact ⟨rfl, by simp; omega⟩) hN
  rw [show ((0 : Int), (0 : Int)) = (0, ((0 : Nat) : Int)) from rfl, key, bnd_mk, foldl_count, Int.zero_add]
theorem p_s_l11Open {N : Nat} (s : List UInt8) (hs : s.length ≤ 274877906944) (hN : s.length < N) : s_l11Open N s = some (isOpen s) := by
  unfold s_l11Open isOpen
  rw [loop_all (l := s) (fun c => !(c == 63)) (b := true) (fun i c hc hi => by
    unfold s_l11Open_L1
    rw [sel_pos (by omega), chk_pos ⟨by omega, by omega⟩, byteI_nat hc, eq63]
    cases c == 63 <;> rfl) (by unfold s_l11Open_L1; rw [sel_neg (by omega)]) (by omega) hN]
  rw [List.all_eq_not_any_not]
  simp only [Bool.not_not]
  cases s.any (fun x => x == 63) <;> rfl
theorem p_i_those {N : Nat} (l : List (List UInt8)) (f : List UInt8 → Option Bool) (p : List UInt8 → Bool) (hf : ∀ x ∈ l, f x = some (p x)) (hl : l.length ≤ 137438953472) (hN : l.length < N) : i_those N l f = some (l.filter p) := by
  unfold i_those
  have := loop_filter (N := N) (l := l) (step := i_those_L1 N l f) p (fi := fun a => a) (fun i x a hx hi ha => by
    unfold i_those_L1
    simp only
    rw [sel_pos (by omega), getI_nat hx, bnd_mk, hf x (List.mem_of_getElem? hx), bnd_mk]
    cases p x
    · rfl
    · rw [sel_true, chk_pos (by simp only [List.length_cons, List.length_nil]; omega)]; rfl) (fun a => by
    unfold i_those_L1
    simp only
    rw [sel_neg (by omega)]) (by omega) hN
  rw [this, bnd_mk]
def wordsIn (g : Gx.Grid) (f : List UInt8) : List (List UInt8) := (patterns g f).filter fun p => !isOpen p
theorem readL_len (f : List UInt8) (l : List Int) : (readL f l).length = l.length := by simp [readL]
theorem pat_small {g : Gx.Grid} {f : List UInt8} : ∀ p ∈ patterns g f, p.length ≤ 6 := by
  intro p hp
  unfold patterns at hp
  split at hp
  · rename_i hf
    obtain ⟨G, hl⟩ := isFill_ok hf
    obtain ⟨R, C, D⟩ := G.dims
    obtain ⟨s, hs, rfl⟩ := List.mem_map.1 hp
    obtain ⟨c, S⟩ := slots_in D hs
    rw [readL_len, cellsL_len]; exact S.small D
  · cases hp
theorem pats_len (g : Gx.Grid) (f : List UInt8) : (patterns g f).length ≤ 72 := by
  unfold patterns
  split
  · rw [List.length_map]; exact slots_len g
  · simp
theorem p_i_WordsIn {N : Nat} (hN : 1048577 < N) (g : Gx.Grid) (f : List UInt8) : i_WordsIn N g f = some (wordsIn g f) := by
  unfold i_WordsIn wordsIn
  have h72 := pats_len g f
  rw [p_i_patterns hN, bnd_mk, p_i_those (patterns g f) _ (fun p => !isOpen p) (fun x hx => by
    have := pat_small x hx
    unfold i_WordsIn_1
    rw [p_i_openIn x (by omega) (by omega), bnd_mk, openN_zero]) (by omega) (by omega), bnd_mk]
theorem p_s_WordsIn {N : Nat} (hN : 1048577 < N) (g : Gx.Grid) (f : List UInt8) (hg : g.mCells.length ≤ 1048576) : s_WordsIn N g f = some (wordsIn g f) := by
  unfold s_WordsIn wordsIn
  have h72 := slots_len g
  rw [p_s_SlotsOf hN g hg, bnd_mk]
  cases hf : isFill g f with
  | false =>
    have hp : patterns g f = [] := by unfold patterns; rw [hf]; rfl
    have : loopN (s_WordsIn_L1 N (slots g) g f) N ([], 0) = some [] := by
      refine loopN_inv (N := N) (step := s_WordsIn_L1 N (slots g) g f) (fun _ => ([], 0)) (n := 0) (b := []) (fun i hi => by omega) ?_ (by omega)
      unfold s_WordsIn_L1
      simp only
      rw [p_s_IsFill hN, bnd_mk, hf, sel_false, sel_ite]
      split <;> rfl
    rw [this, bnd_mk, hp]; rfl
  | true =>
    have hpl := patterns_len hf
    have := loop_filter (N := N) (l := patterns g f) (step := s_WordsIn_L1 N (slots g) g f) (fun p => !isOpen p) (fi := fun a => a) (fun i x a hx hi ha => by
      have hm := List.mem_of_getElem? hx
      have h6 := pat_small x hm
      have hpa : patAt g f (i : Int) = x := by unfold patAt; rw [if_pos (by omega), Int.toNat_natCast, List.getD_eq_getElem?_getD, hx]; rfl
      unfold s_WordsIn_L1
      simp only
      rw [sel_pos (by omega), p_s_IsFill hN, bnd_mk, hf, sel_true, p_s_SlotPattern hN g f hg, bnd_mk, hpa, p_s_l11Open x (by omega) (by omega), bnd_mk]
      cases isOpen x
      · show sel true _ _ = _
        rw [sel_true, chk_pos (by simp only [List.length_cons, List.length_nil]; omega)]; rfl
      · rfl) (fun a => by
      unfold s_WordsIn_L1
      simp only
      rw [sel_neg (by omega)]) (by omega) (by omega)
    rw [this, bnd_mk]
theorem wordsIn_len (g : Gx.Grid) (f : List UInt8) : (wordsIn g f).length ≤ 72 := Nat.le_trans (List.length_filter_le _ _) (pats_len g f)
end Lw
end Go.Proofs
