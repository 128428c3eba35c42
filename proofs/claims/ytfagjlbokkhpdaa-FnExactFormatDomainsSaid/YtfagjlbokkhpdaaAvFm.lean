/- PRINTED BY fam.py (mine): the contracts of the laws' own helpers. -/
import Derived.Test.YtfagjlbokkhpdaaAvT
import Derived.Test.YtfagjlbokkhpdaaAvTc
namespace Go.Proofs
open Go Go.Av
set_option maxRecDepth 100000
set_option linter.unusedVariables false
set_option linter.unusedSimpArgs false
theorem Try.tok : TOk Try.prog Try.tab := tok_of (by kernel_rfl)
theorem Try.mixed : Try.prog.follows .mixedOrders = true := by kernel_rfl
namespace Lw
theorem toStringS (l : List (List UInt8)) (h : l.length + (l.map (fun e : List UInt8 => e.length)).sum ≤ 1048576) : Pure Try.prog 18 [.one (.sl 1 (l.map Gx.encS))] (.one (.sl 1 (l.map Gx.encS))) := by
  refine pure_of_body Try.tok Try.mixed Try.func18 (by kernel_rfl) ?_
  conv => whnf
  refine ⟨by (refine ⟨rfl, ?_, ?_, ?_⟩ <;> simp only [List.length_map] <;> first | omega | (show _ * ((_ : Nat) : Int) ≤ _; dsimp only; omega) | (simp [TI.bytes]; omega)), ?_⟩
  conv => whnf
  refine loop_intro (α := Nat) (fun i => ⟨[(0, .d (.sl 1 (l.map Gx.encS))), (3, .sl 96), (4, .d (.i i))], [(96, some (.arr 1 (copied Gx.encS [.s []] l i) true))], 1000⟩) (fun i => i ≤ l.length) (fun i => l.length - i) 0 ?_ (Nat.zero_le _) ?_
  · (apply weak_of [(96, 96)]; (repeat' (first | exact True.intro | rfl | exact fun h => h | refine And.intro ?_ ?_)); (all_goals (try conv => whnf)))
    · simp [copied_zero]
  intro i hi
  conv => whnf
  refine br_intro (fun h2 => ?_) (fun h2 => ?_)
  · simp at h2
    conv => whnf
    refine ⟨by simp; omega, ?_⟩
    intro row hr
    obtain ⟨x, hx, rfl⟩ := map_get hr
    conv => whnf
    refine ⟨by rw [copied_length _ _ _ hi]; omega, ?_⟩
    conv => whnf
    refine ⟨by rw [copied_length _ _ _ hi]; omega, ?_⟩
    intro row2 hr2
    have e0 := copied_get Gx.encS [.s []] l (i := i) (by omega)
    rw [show ((i : Int).toNat) = i from rfl, e0] at hr2
    simp only [Option.some.injEq] at hr2
    subst hr2
    conv => whnf
    refine loop_next (i + 1) ?_ ?_ ?_
    · (apply weak_of [(96, 96)]; (repeat' (first | exact True.intro | rfl | exact fun h => h | refine And.intro ?_ ?_)); (all_goals (try conv => whnf)))
      · exact copied_set _ _ _ hx rfl
      · (first | rfl | (apply D_i'; (try rw [wrap_in]) <;> (first | omega | rfl)))
    · omega
    · omega
  · simp at h2
    conv => whnf
    exact congrArg DV.one (D_sl (copied_all _ _ _ h2))

theorem toStringSS (l : List (List (List UInt8))) (h : l.length + (l.map (fun e : List (List UInt8) => e.length + (e.map fun ee => ee.length).sum)).sum ≤ 1048576) : Pure Try.prog 22 [.one (.sl 1 (l.map (fun x => [D.sl 1 (x.map Gx.encS)])))] (.one (.sl 1 (l.map (fun x => [D.sl 1 (x.map Gx.encS)])))) := by
  refine pure_of_body Try.tok Try.mixed Try.func22 (by kernel_rfl) ?_
  conv => whnf
  refine ⟨by (refine ⟨rfl, ?_, ?_, ?_⟩ <;> simp only [List.length_map] <;> first | omega | (show _ * ((_ : Nat) : Int) ≤ _; dsimp only; omega) | (simp [TI.bytes]; omega)), ?_⟩
  conv => whnf
  refine loop_intro (α := Nat) (fun i => ⟨[(0, .d (.sl 1 (l.map (fun x => [D.sl 1 (x.map Gx.encS)])))), (3, .sl 96), (4, .d (.i i))], [(96, some (.arr 1 (copied (fun x => [D.sl 1 (x.map Gx.encS)]) [.sl 1 []] l i) true))], 1000⟩) (fun i => i ≤ l.length) (fun i => l.length - i) 0 ?_ (Nat.zero_le _) ?_
  · (apply weak_of [(96, 96)]; (repeat' (first | exact True.intro | rfl | exact fun h => h | refine And.intro ?_ ?_)); (all_goals (try conv => whnf)))
    · simp [copied_zero]
  intro i hi
  conv => whnf
  refine br_intro (fun h2 => ?_) (fun h2 => ?_)
  · simp at h2
    conv => whnf
    refine ⟨by simp; omega, ?_⟩
    intro row hr
    obtain ⟨x, hx, rfl⟩ := map_get hr
    conv => whnf
    have hms := mem_sum (fun e : List (List UInt8) => e.length + (e.map fun ee => ee.length).sum) (List.mem_of_getElem? hx)
    refine ⟨_, toStringS x (by omega), ?_⟩
    conv => whnf
    refine ⟨by rw [copied_length _ _ _ hi]; omega, ?_⟩
    conv => whnf
    refine ⟨by rw [copied_length _ _ _ hi]; omega, ?_⟩
    intro row2 hr2
    have e0 := copied_get (fun x => [D.sl 1 (x.map Gx.encS)]) [.sl 1 []] l (i := i) (by omega)
    rw [show ((i : Int).toNat) = i from rfl, e0] at hr2
    simp only [Option.some.injEq] at hr2
    subst hr2
    conv => whnf
    refine loop_next (i + 1) ?_ ?_ ?_
    · (apply weak_of [(96, 96)]; (repeat' (first | exact True.intro | rfl | exact fun h => h | refine And.intro ?_ ?_)); (all_goals (try conv => whnf)))
      · exact copied_set _ _ _ hx rfl
      · (first | rfl | (apply D_i'; (try rw [wrap_in]) <;> (first | omega | rfl)))
    · omega
    · omega
  · simp at h2
    conv => whnf
    exact congrArg DV.one (D_sl (copied_all _ _ _ h2))

theorem toStep (x : Gx.Step) (h : x.size ≤ 1048576) : Pure Try.prog 69 [.agg x.enc] (.agg x.enc) := by
  unfold Gx.Step.size at h
  refine pure_of_body Try.tok Try.mixed Try.func69 (by kernel_rfl) ?_
  conv => whnf
  all_goals rfl

theorem toStepS (l : List (Gx.Step)) (h : l.length + (l.map (fun e : Gx.Step => e.size)).sum ≤ 1048576) : Pure Try.prog 64 [.one (.sl 4 (l.map Gx.Step.enc))] (.one (.sl 4 (l.map Gx.Step.enc))) := by
  refine pure_of_body Try.tok Try.mixed Try.func64 (by kernel_rfl) ?_
  conv => whnf
  refine ⟨by (refine ⟨rfl, ?_, ?_, ?_⟩ <;> simp only [List.length_map] <;> first | omega | (show _ * ((_ : Nat) : Int) ≤ _; dsimp only; omega) | (simp [TI.bytes]; omega)), ?_⟩
  conv => whnf
  refine loop_intro (α := Nat) (fun i => ⟨[(0, .d (.sl 4 (l.map Gx.Step.enc))), (3, .sl 96), (4, .d (.i i))], [(96, some (.arr 4 (copied Gx.Step.enc [.i 0, .s [], .i 0, .i 0] l i) true))], 1000⟩) (fun i => i ≤ l.length) (fun i => l.length - i) 0 ?_ (Nat.zero_le _) ?_
  · (apply weak_of [(96, 96)]; (repeat' (first | exact True.intro | rfl | exact fun h => h | refine And.intro ?_ ?_)); (all_goals (try conv => whnf)))
    · simp [copied_zero]
  intro i hi
  conv => whnf
  refine br_intro (fun h2 => ?_) (fun h2 => ?_)
  · simp at h2
    conv => whnf
    refine ⟨by simp; omega, ?_⟩
    intro row hr
    obtain ⟨x, hx, rfl⟩ := map_get hr
    conv => whnf
    have hms := mem_sum (fun e : Gx.Step => e.size) (List.mem_of_getElem? hx)
    refine ⟨_, toStep x (by omega), ?_⟩
    conv => whnf
    refine ⟨by rw [copied_length _ _ _ hi]; omega, ?_⟩
    conv => whnf
    refine ⟨by rw [copied_length _ _ _ hi]; omega, ?_⟩
    intro row2 hr2
    have e0 := copied_get Gx.Step.enc [.i 0, .s [], .i 0, .i 0] l (i := i) (by omega)
    rw [show ((i : Int).toNat) = i from rfl, e0] at hr2
    simp only [Option.some.injEq] at hr2
    subst hr2
    conv => whnf
    refine loop_next (i + 1) ?_ ?_ ?_
    · (apply weak_of [(96, 96)]; (repeat' (first | exact True.intro | rfl | exact fun h => h | refine And.intro ?_ ?_)); (all_goals (try conv => whnf)))
      · exact copied_set _ _ _ hx rfl
      · (first | rfl | (apply D_i'; (try rw [wrap_in]) <;> (first | omega | rfl)))
    · omega
    · omega
  · simp at h2
    conv => whnf
    exact congrArg DV.one (D_sl (copied_all _ _ _ h2))

theorem toClue (x : Gx.Clue) (h : x.size ≤ 1048576) : Pure Try.prog 52 [.agg x.enc] (.agg x.enc) := by
  unfold Gx.Clue.size at h
  refine pure_of_body Try.tok Try.mixed Try.func52 (by kernel_rfl) ?_
  conv => whnf
  refine ⟨_, toStepS x.mPlay (by omega), ?_⟩
  conv => whnf
  all_goals rfl

theorem toGrid (x : Gx.Grid) (h : x.size ≤ 1048576) : Pure Try.prog 27 [.agg x.enc] (.agg x.enc) := by
  unfold Gx.Grid.size at h
  refine pure_of_body Try.tok Try.mixed Try.func27 (by kernel_rfl) ?_
  conv => whnf
  all_goals rfl

theorem toListed (x : Gx.Listed) (h : x.size ≤ 1048576) : Pure Try.prog 53 [.agg x.enc] (.agg x.enc) := by
  unfold Gx.Listed.size at h
  refine pure_of_body Try.tok Try.mixed Try.func53 (by kernel_rfl) ?_
  conv => whnf
  all_goals rfl

theorem toMeaning (x : Gx.Meaning) (h : x.size ≤ 1048576) : Pure Try.prog 54 [.agg x.enc] (.agg x.enc) := by
  unfold Gx.Meaning.size at h
  refine pure_of_body Try.tok Try.mixed Try.func54 (by kernel_rfl) ?_
  conv => whnf
  all_goals rfl

theorem toEvent (x : Gx.Event) (h : x.size ≤ 1048576) : Pure Try.prog 43 [.agg x.enc] (.agg x.enc) := by
  unfold Gx.Event.size at h
  refine pure_of_body Try.tok Try.mixed Try.func43 (by kernel_rfl) ?_
  conv => whnf
  refine ⟨_, toGrid x.mGrid (by omega), ?_⟩
  conv => whnf
  refine ⟨_, toClue x.mClue (by omega), ?_⟩
  conv => whnf
  refine ⟨_, toListed x.mListed (by omega), ?_⟩
  conv => whnf
  refine ⟨_, toMeaning x.mMeaning (by omega), ?_⟩
  conv => whnf
  all_goals rfl

theorem toEventS (l : List (Gx.Event)) (h : l.length + (l.map (fun e : Gx.Event => e.size)).sum ≤ 1048576) : Pure Try.prog 31 [.one (.sl 16 (l.map Gx.Event.enc))] (.one (.sl 16 (l.map Gx.Event.enc))) := by
  refine pure_of_body Try.tok Try.mixed Try.func31 (by kernel_rfl) ?_
  conv => whnf
  refine ⟨by (refine ⟨rfl, ?_, ?_, ?_⟩ <;> simp only [List.length_map] <;> first | omega | (show _ * ((_ : Nat) : Int) ≤ _; dsimp only; omega) | (simp [TI.bytes]; omega)), ?_⟩
  conv => whnf
  refine loop_intro (α := Nat) (fun i => ⟨[(0, .d (.sl 16 (l.map Gx.Event.enc))), (3, .sl 96), (4, .d (.i i))], [(96, some (.arr 16 (copied Gx.Event.enc [.i 0, .i 0, .i 0, .i 0, .s [], .i 0, .i 0, .s [], .i 0, .sl 4 [], .s [], .i 0, .i 0, .i 0, .s [], .i 0] l i) true))], 1000⟩) (fun i => i ≤ l.length) (fun i => l.length - i) 0 ?_ (Nat.zero_le _) ?_
  · (apply weak_of [(96, 96)]; (repeat' (first | exact True.intro | rfl | exact fun h => h | refine And.intro ?_ ?_)); (all_goals (try conv => whnf)))
    · simp [copied_zero]
  intro i hi
  conv => whnf
  refine br_intro (fun h2 => ?_) (fun h2 => ?_)
  · simp at h2
    conv => whnf
    refine ⟨by simp; omega, ?_⟩
    intro row hr
    obtain ⟨x, hx, rfl⟩ := map_get hr
    conv => whnf
    have hms := mem_sum (fun e : Gx.Event => e.size) (List.mem_of_getElem? hx)
    refine ⟨_, toEvent x (by omega), ?_⟩
    conv => whnf
    refine ⟨by rw [copied_length _ _ _ hi]; omega, ?_⟩
    conv => whnf
    refine ⟨by rw [copied_length _ _ _ hi]; omega, ?_⟩
    intro row2 hr2
    have e0 := copied_get Gx.Event.enc [.i 0, .i 0, .i 0, .i 0, .s [], .i 0, .i 0, .s [], .i 0, .sl 4 [], .s [], .i 0, .i 0, .i 0, .s [], .i 0] l (i := i) (by omega)
    rw [show ((i : Int).toNat) = i from rfl, e0] at hr2
    simp only [Option.some.injEq] at hr2
    subst hr2
    conv => whnf
    refine loop_next (i + 1) ?_ ?_ ?_
    · (apply weak_of [(96, 96)]; (repeat' (first | exact True.intro | rfl | exact fun h => h | refine And.intro ?_ ?_)); (all_goals (try conv => whnf)))
      · exact copied_set _ _ _ hx rfl
      · (first | rfl | (apply D_i'; (try rw [wrap_in]) <;> (first | omega | rfl)))
    · omega
    · omega
  · simp at h2
    conv => whnf
    exact congrArg DV.one (D_sl (copied_all _ _ _ h2))

theorem eqStringS (l : List (List UInt8)) (h : l.length + (l.map (fun e : List UInt8 => e.length)).sum ≤ 1048576) : Pure Try.prog 13 [.one (.sl 1 (l.map Gx.encS)), .one (.sl 1 (l.map Gx.encS))] (.one (.b true)) := by
  refine pure_of_body Try.tok Try.mixed Try.func13 (by kernel_rfl) ?_
  conv => whnf
  refine br_intro (fun h => absurd h (by simp)) (fun h => ?_)
  conv => whnf
  refine loop_intro (α := Nat) (fun i => ⟨[(0, .d (.sl 1 (l.map Gx.encS))), (1, .d (.sl 1 (l.map Gx.encS))), (5, .d (.i i))], [], 1000⟩) (fun i => i ≤ l.length) (fun i => l.length - i) 0 ?_ (Nat.zero_le _) ?_
  · (apply weak_of []; (repeat' (first | exact True.intro | rfl | exact fun h => h | refine And.intro ?_ ?_)); (all_goals (try conv => whnf)))
  intro i hi
  conv => whnf
  refine br_intro (fun h2 => ?_) (fun h2 => ?_)
  · simp at h2
    conv => whnf
    refine ⟨by simp; omega, ?_⟩
    intro row hr
    obtain ⟨x, hx, rfl⟩ := map_get hr
    conv => whnf
    refine ⟨by simp; omega, ?_⟩
    intro row hr
    obtain ⟨y, hy, rfl⟩ := map_get hr
    have hxy : x = y := Option.some.inj (hx.symm.trans hy)
    subst hxy
    conv => whnf
    refine br_intro (fun h => absurd h (by simp)) (fun h => ?_)
    conv => whnf
    refine loop_next (i + 1) ?_ ?_ ?_
    · (apply weak_of []; (repeat' (first | exact True.intro | rfl | exact fun h => h | refine And.intro ?_ ?_)); (all_goals (try conv => whnf)))
      · (first | rfl | (apply D_i'; (try rw [wrap_in]) <;> (first | omega | rfl)))
    · omega
    · omega
  · conv => whnf

theorem eqStringSS (l : List (List (List UInt8))) (h : l.length + (l.map (fun e : List (List UInt8) => e.length + (e.map fun ee => ee.length).sum)).sum ≤ 1048576) : Pure Try.prog 24 [.one (.sl 1 (l.map (fun x => [D.sl 1 (x.map Gx.encS)]))), .one (.sl 1 (l.map (fun x => [D.sl 1 (x.map Gx.encS)])))] (.one (.b true)) := by
  refine pure_of_body Try.tok Try.mixed Try.func24 (by kernel_rfl) ?_
  conv => whnf
  refine br_intro (fun h => absurd h (by simp)) (fun h => ?_)
  conv => whnf
  refine loop_intro (α := Nat) (fun i => ⟨[(0, .d (.sl 1 (l.map (fun x => [D.sl 1 (x.map Gx.encS)])))), (1, .d (.sl 1 (l.map (fun x => [D.sl 1 (x.map Gx.encS)])))), (5, .d (.i i))], [], 1000⟩) (fun i => i ≤ l.length) (fun i => l.length - i) 0 ?_ (Nat.zero_le _) ?_
  · (apply weak_of []; (repeat' (first | exact True.intro | rfl | exact fun h => h | refine And.intro ?_ ?_)); (all_goals (try conv => whnf)))
  intro i hi
  conv => whnf
  refine br_intro (fun h2 => ?_) (fun h2 => ?_)
  · simp at h2
    conv => whnf
    refine ⟨by simp; omega, ?_⟩
    intro row hr
    obtain ⟨x, hx, rfl⟩ := map_get hr
    conv => whnf
    refine ⟨by simp; omega, ?_⟩
    intro row hr
    obtain ⟨y, hy, rfl⟩ := map_get hr
    have hxy : x = y := Option.some.inj (hx.symm.trans hy)
    subst hxy
    conv => whnf
    have hms := mem_sum (fun e : List (List UInt8) => e.length + (e.map fun ee => ee.length).sum) (List.mem_of_getElem? hx)
    refine ⟨_, eqStringS x (by omega), ?_⟩
    conv => whnf
    refine loop_next (i + 1) ?_ ?_ ?_
    · (apply weak_of []; (repeat' (first | exact True.intro | rfl | exact fun h => h | refine And.intro ?_ ?_)); (all_goals (try conv => whnf)))
      · (first | rfl | (apply D_i'; (try rw [wrap_in]) <;> (first | omega | rfl)))
    · omega
    · omega
  · conv => whnf

theorem eqStep (x : Gx.Step) (h : x.size ≤ 1048576) : Pure Try.prog 70 [.agg x.enc, .agg x.enc] (.one (.b true)) := by
  unfold Gx.Step.size at h
  refine pure_of_body Try.tok Try.mixed Try.func70 (by kernel_rfl) ?_
  conv => whnf
  refine br_intro (fun h => absurd h (by simp)) (fun h => ?_)
  conv => whnf
  refine br_intro (fun h => absurd h (by simp)) (fun h => ?_)
  conv => whnf
  refine br_intro (fun h => absurd h (by simp)) (fun h => ?_)
  conv => whnf
  refine br_intro (fun h => absurd h (by simp)) (fun h => ?_)
  conv => whnf

theorem eqStepS (l : List (Gx.Step)) (h : l.length + (l.map (fun e : Gx.Step => e.size)).sum ≤ 1048576) : Pure Try.prog 65 [.one (.sl 4 (l.map Gx.Step.enc)), .one (.sl 4 (l.map Gx.Step.enc))] (.one (.b true)) := by
  refine pure_of_body Try.tok Try.mixed Try.func65 (by kernel_rfl) ?_
  conv => whnf
  refine br_intro (fun h => absurd h (by simp)) (fun h => ?_)
  conv => whnf
  refine loop_intro (α := Nat) (fun i => ⟨[(0, .d (.sl 4 (l.map Gx.Step.enc))), (1, .d (.sl 4 (l.map Gx.Step.enc))), (5, .d (.i i))], [], 1000⟩) (fun i => i ≤ l.length) (fun i => l.length - i) 0 ?_ (Nat.zero_le _) ?_
  · (apply weak_of []; (repeat' (first | exact True.intro | rfl | exact fun h => h | refine And.intro ?_ ?_)); (all_goals (try conv => whnf)))
  intro i hi
  conv => whnf
  refine br_intro (fun h2 => ?_) (fun h2 => ?_)
  · simp at h2
    conv => whnf
    refine ⟨by simp; omega, ?_⟩
    intro row hr
    obtain ⟨x, hx, rfl⟩ := map_get hr
    conv => whnf
    refine ⟨by simp; omega, ?_⟩
    intro row hr
    obtain ⟨y, hy, rfl⟩ := map_get hr
    have hxy : x = y := Option.some.inj (hx.symm.trans hy)
    subst hxy
    conv => whnf
    have hms := mem_sum (fun e : Gx.Step => e.size) (List.mem_of_getElem? hx)
    refine ⟨_, eqStep x (by omega), ?_⟩
    conv => whnf
    refine loop_next (i + 1) ?_ ?_ ?_
    · (apply weak_of []; (repeat' (first | exact True.intro | rfl | exact fun h => h | refine And.intro ?_ ?_)); (all_goals (try conv => whnf)))
      · (first | rfl | (apply D_i'; (try rw [wrap_in]) <;> (first | omega | rfl)))
    · omega
    · omega
  · conv => whnf

theorem eqClue (x : Gx.Clue) (h : x.size ≤ 1048576) : Pure Try.prog 56 [.agg x.enc, .agg x.enc] (.one (.b true)) := by
  unfold Gx.Clue.size at h
  refine pure_of_body Try.tok Try.mixed Try.func56 (by kernel_rfl) ?_
  conv => whnf
  refine br_intro (fun h => absurd h (by simp)) (fun h => ?_)
  conv => whnf
  refine ⟨_, eqStepS x.mPlay (by omega), ?_⟩
  conv => whnf

theorem eqGrid (x : Gx.Grid) (h : x.size ≤ 1048576) : Pure Try.prog 55 [.agg x.enc, .agg x.enc] (.one (.b true)) := by
  unfold Gx.Grid.size at h
  refine pure_of_body Try.tok Try.mixed Try.func55 (by kernel_rfl) ?_
  conv => whnf
  refine br_intro (fun h => absurd h (by simp)) (fun h => ?_)
  conv => whnf
  refine br_intro (fun h => absurd h (by simp)) (fun h => ?_)
  conv => whnf
  refine br_intro (fun h => absurd h (by simp)) (fun h => ?_)
  conv => whnf

theorem eqListed (x : Gx.Listed) (h : x.size ≤ 1048576) : Pure Try.prog 57 [.agg x.enc, .agg x.enc] (.one (.b true)) := by
  unfold Gx.Listed.size at h
  refine pure_of_body Try.tok Try.mixed Try.func57 (by kernel_rfl) ?_
  conv => whnf
  refine br_intro (fun h => absurd h (by simp)) (fun h => ?_)
  conv => whnf
  refine br_intro (fun h => absurd h (by simp)) (fun h => ?_)
  conv => whnf
  refine br_intro (fun h => absurd h (by simp)) (fun h => ?_)
  conv => whnf
  refine br_intro (fun h => absurd h (by simp)) (fun h => ?_)
  conv => whnf

theorem eqMeaning (x : Gx.Meaning) (h : x.size ≤ 1048576) : Pure Try.prog 58 [.agg x.enc, .agg x.enc] (.one (.b true)) := by
  unfold Gx.Meaning.size at h
  refine pure_of_body Try.tok Try.mixed Try.func58 (by kernel_rfl) ?_
  conv => whnf
  refine br_intro (fun h => absurd h (by simp)) (fun h => ?_)
  conv => whnf
  refine br_intro (fun h => absurd h (by simp)) (fun h => ?_)
  conv => whnf

theorem eqEvent (x : Gx.Event) (h : x.size ≤ 1048576) : Pure Try.prog 44 [.agg x.enc, .agg x.enc] (.one (.b true)) := by
  unfold Gx.Event.size at h
  refine pure_of_body Try.tok Try.mixed Try.func44 (by kernel_rfl) ?_
  conv => whnf
  refine br_intro (fun h => absurd h (by simp)) (fun h => ?_)
  conv => whnf
  refine br_intro (fun h => absurd h (by simp)) (fun h => ?_)
  conv => whnf
  refine br_intro (fun h => absurd h (by simp)) (fun h => ?_)
  conv => whnf
  refine br_intro (fun h => absurd h (by simp)) (fun h => ?_)
  conv => whnf
  refine br_intro (fun h => absurd h (by simp)) (fun h => ?_)
  conv => whnf
  refine ⟨_, eqGrid x.mGrid (by omega), ?_⟩
  conv => whnf
  refine ⟨_, eqClue x.mClue (by omega), ?_⟩
  conv => whnf
  refine ⟨_, eqListed x.mListed (by omega), ?_⟩
  conv => whnf
  refine ⟨_, eqMeaning x.mMeaning (by omega), ?_⟩
  conv => whnf

theorem eqEventS (l : List (Gx.Event)) (h : l.length + (l.map (fun e : Gx.Event => e.size)).sum ≤ 1048576) : Pure Try.prog 33 [.one (.sl 16 (l.map Gx.Event.enc)), .one (.sl 16 (l.map Gx.Event.enc))] (.one (.b true)) := by
  refine pure_of_body Try.tok Try.mixed Try.func33 (by kernel_rfl) ?_
  conv => whnf
  refine br_intro (fun h => absurd h (by simp)) (fun h => ?_)
  conv => whnf
  refine loop_intro (α := Nat) (fun i => ⟨[(0, .d (.sl 16 (l.map Gx.Event.enc))), (1, .d (.sl 16 (l.map Gx.Event.enc))), (5, .d (.i i))], [], 1000⟩) (fun i => i ≤ l.length) (fun i => l.length - i) 0 ?_ (Nat.zero_le _) ?_
  · (apply weak_of []; (repeat' (first | exact True.intro | rfl | exact fun h => h | refine And.intro ?_ ?_)); (all_goals (try conv => whnf)))
  intro i hi
  conv => whnf
  refine br_intro (fun h2 => ?_) (fun h2 => ?_)
  · simp at h2
    conv => whnf
    refine ⟨by simp; omega, ?_⟩
    intro row hr
    obtain ⟨x, hx, rfl⟩ := map_get hr
    conv => whnf
    refine ⟨by simp; omega, ?_⟩
    intro row hr
    obtain ⟨y, hy, rfl⟩ := map_get hr
    have hxy : x = y := Option.some.inj (hx.symm.trans hy)
    subst hxy
    conv => whnf
    have hms := mem_sum (fun e : Gx.Event => e.size) (List.mem_of_getElem? hx)
    refine ⟨_, eqEvent x (by omega), ?_⟩
    conv => whnf
    refine loop_next (i + 1) ?_ ?_ ?_
    · (apply weak_of []; (repeat' (first | exact True.intro | rfl | exact fun h => h | refine And.intro ?_ ?_)); (all_goals (try conv => whnf)))
      · (first | rfl | (apply D_i'; (try rw [wrap_in]) <;> (first | omega | rfl)))
    · omega
    · omega
  · conv => whnf

theorem szStringS (l : List (List UInt8)) (hl : l.length ≤ 9223372036854775807) (hb : ∀ e ∈ l, e.length ≤ 9223372036854775807) (left : Int) (h0 : 0 ≤ left) (h1 : left ≤ 1048576) : Pure Try.prog 16 [.one (.sl 1 (l.map Gx.encS)), .i left] (.one (.i (szF (l.length + (l.map (fun e : List UInt8 => e.length)).sum) left))) := by
  have w0 := wrap_in (n := left - (l.length : Int)) (by omega) (by omega)
  refine pure_of_body Try.tok Try.mixed Try.func16 (by kernel_rfl) ?_
  conv => whnf
  refine br_intro (fun h => ?_) (fun h => ?_)
  · simp only [List.length_map, decide_eq_true_eq] at h; rw [w0] at h
    conv => whnf
    exact neg_of (szF_no (by omega))
  simp only [List.length_map, decide_eq_false_iff_not] at h; rw [w0] at h
  conv => whnf
  refine loop_intro (α := Nat) (fun i => ⟨[(0, .d (.sl 1 (l.map Gx.encS))), (1, .d (.i (left - l.length - pre (fun e : List UInt8 => e.length) l i))), (5, .d (.i i))], [], 1000⟩)
    (fun i => i ≤ l.length ∧ 0 ≤ left - l.length - (pre (fun e : List UInt8 => e.length) l i : Int)) (fun i => l.length - i) 0 ?_ ⟨Nat.zero_le _, by rw [pre_zero]; omega⟩ ?_
  · (apply weak_of []; (repeat' (first | exact True.intro | rfl | exact fun h => h | refine And.intro ?_ ?_)); (all_goals (try conv => whnf)))
    · exact D_i' (by simp only [List.length_map]; rw [w0, pre_zero]; omega)
  intro i hi
  obtain ⟨hi, hp⟩ := hi
  conv => whnf
  refine br_intro (fun h => ?_) (fun h => ?_)
  · simp at h
    conv => whnf
    refine ⟨by simp; omega, ?_⟩
    intro row hr
    obtain ⟨x, hx, rfl⟩ := map_get hr
    have hx : l[i]? = some x := hx
    have hs := pre_succ (fun e : List UInt8 => e.length) l hx
    have hle := pre_le (fun e : List UInt8 => e.length) l (i + 1)
    have hbx := hb x (List.mem_of_getElem? hx)
    try dsimp only at hs
    conv => whnf
    have w1 := wrap_in (n := left - l.length - pre (fun e : List UInt8 => e.length) l i - (x.length : Int)) (by omega) (by omega)
    refine br_intro (fun h2 => ?_) (fun h2 => ?_)
    · simp only [decide_eq_true_eq] at h2; rw [w1] at h2
      conv => whnf
      exact neg_of (szF_no (by omega))
    · simp only [decide_eq_false_iff_not] at h2; rw [w1] at h2
      conv => whnf
      refine loop_next (i + 1) ?_ ?_ ?_
      · (apply weak_of []; (repeat' (first | exact True.intro | rfl | exact fun h => h | refine And.intro ?_ ?_)); (all_goals (try conv => whnf)))
        · exact D_i' (by rw [w1]; omega)
        · (first | rfl | (apply D_i'; (try rw [wrap_in]) <;> (first | omega | rfl)))
      · omega
      · exact ⟨by omega, by omega⟩
  · simp at h
    conv => whnf
    have := pre_all (fun e : List UInt8 => e.length) l h
    exact res_i (by rw [szF_yes (by omega)]; omega)

theorem szStringSS (l : List (List (List UInt8))) (hl : l.length ≤ 9223372036854775807) (hb : ∀ e ∈ l, e.length ≤ 9223372036854775807 ∧ (∀ ee ∈ e, ee.length ≤ 9223372036854775807)) (left : Int) (h0 : 0 ≤ left) (h1 : left ≤ 1048576) : Pure Try.prog 20 [.one (.sl 1 (l.map (fun x => [D.sl 1 (x.map Gx.encS)]))), .i left] (.one (.i (szF (l.length + (l.map (fun e : List (List UInt8) => e.length + (e.map fun ee => ee.length).sum)).sum) left))) := by
  have w0 := wrap_in (n := left - (l.length : Int)) (by omega) (by omega)
  refine pure_of_body Try.tok Try.mixed Try.func20 (by kernel_rfl) ?_
  conv => whnf
  refine br_intro (fun h => ?_) (fun h => ?_)
  · simp only [List.length_map, decide_eq_true_eq] at h; rw [w0] at h
    conv => whnf
    exact neg_of (szF_no (by omega))
  simp only [List.length_map, decide_eq_false_iff_not] at h; rw [w0] at h
  conv => whnf
  refine loop_intro (α := Nat) (fun i => ⟨[(0, .d (.sl 1 (l.map (fun x => [D.sl 1 (x.map Gx.encS)])))), (1, .d (.i (left - l.length - pre (fun e : List (List UInt8) => e.length + (e.map fun ee => ee.length).sum) l i))), (5, .d (.i i))], [], 1000⟩)
    (fun i => i ≤ l.length ∧ 0 ≤ left - l.length - (pre (fun e : List (List UInt8) => e.length + (e.map fun ee => ee.length).sum) l i : Int)) (fun i => l.length - i) 0 ?_ ⟨Nat.zero_le _, by rw [pre_zero]; omega⟩ ?_
  · (apply weak_of []; (repeat' (first | exact True.intro | rfl | exact fun h => h | refine And.intro ?_ ?_)); (all_goals (try conv => whnf)))
    · exact D_i' (by simp only [List.length_map]; rw [w0, pre_zero]; omega)
  intro i hi
  obtain ⟨hi, hp⟩ := hi
  conv => whnf
  refine br_intro (fun h => ?_) (fun h => ?_)
  · simp at h
    conv => whnf
    refine ⟨by simp; omega, ?_⟩
    intro row hr
    obtain ⟨x, hx, rfl⟩ := map_get hr
    have hx : l[i]? = some x := hx
    have hs := pre_succ (fun e : List (List UInt8) => e.length + (e.map fun ee => ee.length).sum) l hx
    have hle := pre_le (fun e : List (List UInt8) => e.length + (e.map fun ee => ee.length).sum) l (i + 1)
    have hbx := hb x (List.mem_of_getElem? hx)
    try dsimp only at hs
    conv => whnf
    refine ⟨_, szStringS x hbx.1 (by simpa using hbx.2) _ (by omega) (by omega), ?_⟩
    conv => whnf
    refine br_intro (fun h2 => ?_) (fun h2 => ?_)
    · simp only [decide_eq_true_eq] at h2
      have h3 := szF_lt h2 hp
      conv => whnf
      exact neg_of (szF_no (by omega))
    · simp only [decide_eq_false_iff_not] at h2
      obtain ⟨h3, h4⟩ := szF_ge h2
      conv => whnf
      refine loop_next (i + 1) ?_ ?_ ?_
      · (apply weak_of []; (repeat' (first | exact True.intro | rfl | exact fun h => h | refine And.intro ?_ ?_)); (all_goals (try conv => whnf)))
        · exact D_i' (by rw [h3]; omega)
        · (first | rfl | (apply D_i'; (try rw [wrap_in]) <;> (first | omega | rfl)))
      · omega
      · exact ⟨by omega, by omega⟩
  · simp at h
    conv => whnf
    have := pre_all (fun e : List (List UInt8) => e.length + (e.map fun ee => ee.length).sum) l h
    exact res_i (by rw [szF_yes (by omega)]; omega)

theorem szStep (x : Gx.Step) (hx : x.ok) (left : Int) (h0 : 0 ≤ left) (h1 : left ≤ 1048576) : Pure Try.prog 68 [.agg x.enc, .i left] (.one (.i (szF x.size left))) := by
  unfold Gx.Step.ok at hx
  unfold Gx.Step.size
  refine pure_of_body Try.tok Try.mixed Try.func68 (by kernel_rfl) ?_
  conv => whnf
  have w0 := wrap_in (n := left - (x.mWord.length : Int)) (by omega) (by omega)
  refine br_intro (fun h => ?_) (fun h => ?_)
  · simp only [decide_eq_true_eq] at h; rw [w0] at h
    conv => whnf
    exact neg_of (szF_no (by omega))
  simp only [decide_eq_false_iff_not] at h; rw [w0] at h
  try rw [w0]
  conv => whnf
  all_goals exact res_i (by first | (rw [szF_yes (by omega)]; done) | (rw [szF_yes (by omega)]; omega) | (rw [w0, szF_yes (by omega)]; done) | (rw [w0, szF_yes (by omega)]; omega))

theorem szStepS (l : List (Gx.Step)) (hl : l.length ≤ 9223372036854775807) (hb : ∀ e ∈ l, e.ok) (left : Int) (h0 : 0 ≤ left) (h1 : left ≤ 1048576) : Pure Try.prog 63 [.one (.sl 4 (l.map Gx.Step.enc)), .i left] (.one (.i (szF (l.length + (l.map (fun e : Gx.Step => e.size)).sum) left))) := by
  have w0 := wrap_in (n := left - (l.length : Int)) (by omega) (by omega)
  refine pure_of_body Try.tok Try.mixed Try.func63 (by kernel_rfl) ?_
  conv => whnf
  refine br_intro (fun h => ?_) (fun h => ?_)
  · simp only [List.length_map, decide_eq_true_eq] at h; rw [w0] at h
    conv => whnf
    exact neg_of (szF_no (by omega))
  simp only [List.length_map, decide_eq_false_iff_not] at h; rw [w0] at h
  conv => whnf
  refine loop_intro (α := Nat) (fun i => ⟨[(0, .d (.sl 4 (l.map Gx.Step.enc))), (1, .d (.i (left - l.length - pre (fun e : Gx.Step => e.size) l i))), (5, .d (.i i))], [], 1000⟩)
    (fun i => i ≤ l.length ∧ 0 ≤ left - l.length - (pre (fun e : Gx.Step => e.size) l i : Int)) (fun i => l.length - i) 0 ?_ ⟨Nat.zero_le _, by rw [pre_zero]; omega⟩ ?_
  · (apply weak_of []; (repeat' (first | exact True.intro | rfl | exact fun h => h | refine And.intro ?_ ?_)); (all_goals (try conv => whnf)))
    · exact D_i' (by simp only [List.length_map]; rw [w0, pre_zero]; omega)
  intro i hi
  obtain ⟨hi, hp⟩ := hi
  conv => whnf
  refine br_intro (fun h => ?_) (fun h => ?_)
  · simp at h
    conv => whnf
    refine ⟨by simp; omega, ?_⟩
    intro row hr
    obtain ⟨x, hx, rfl⟩ := map_get hr
    have hx : l[i]? = some x := hx
    have hs := pre_succ (fun e : Gx.Step => e.size) l hx
    have hle := pre_le (fun e : Gx.Step => e.size) l (i + 1)
    have hbx := hb x (List.mem_of_getElem? hx)
    try dsimp only at hs
    conv => whnf
    refine ⟨_, szStep x hbx _ (by omega) (by omega), ?_⟩
    conv => whnf
    refine br_intro (fun h2 => ?_) (fun h2 => ?_)
    · simp only [decide_eq_true_eq] at h2
      have h3 := szF_lt h2 hp
      conv => whnf
      exact neg_of (szF_no (by omega))
    · simp only [decide_eq_false_iff_not] at h2
      obtain ⟨h3, h4⟩ := szF_ge h2
      conv => whnf
      refine loop_next (i + 1) ?_ ?_ ?_
      · (apply weak_of []; (repeat' (first | exact True.intro | rfl | exact fun h => h | refine And.intro ?_ ?_)); (all_goals (try conv => whnf)))
        · exact D_i' (by rw [h3]; omega)
        · (first | rfl | (apply D_i'; (try rw [wrap_in]) <;> (first | omega | rfl)))
      · omega
      · exact ⟨by omega, by omega⟩
  · simp at h
    conv => whnf
    have := pre_all (fun e : Gx.Step => e.size) l h
    exact res_i (by rw [szF_yes (by omega)]; omega)

theorem szClue (x : Gx.Clue) (hx : x.ok) (left : Int) (h0 : 0 ≤ left) (h1 : left ≤ 1048576) : Pure Try.prog 49 [.agg x.enc, .i left] (.one (.i (szF x.size left))) := by
  unfold Gx.Clue.ok at hx
  unfold Gx.Clue.size
  refine pure_of_body Try.tok Try.mixed Try.func49 (by kernel_rfl) ?_
  conv => whnf
  refine ⟨_, szStepS x.mPlay (by simp only [hx]) (by first | (intro e he; exact hx.left e he) | (have := hx; simp_all)) left (by omega) (by omega), ?_⟩
  conv => whnf
  refine br_intro (fun h => ?_) (fun h => ?_)
  · simp only [decide_eq_true_eq] at h
    have := szF_lt h (by omega)
    conv => whnf
    exact neg_of (szF_no (by omega))
  simp only [decide_eq_false_iff_not] at h
  obtain ⟨w0, w0'⟩ := szF_ge h
  try rw [w0]
  conv => whnf
  all_goals exact res_i (by first | (rw [szF_yes (by omega)]; done) | (rw [szF_yes (by omega)]; omega) | (rw [w0, szF_yes (by omega)]; done) | (rw [w0, szF_yes (by omega)]; omega))

theorem szGrid (x : Gx.Grid) (hx : x.ok) (left : Int) (h0 : 0 ≤ left) (h1 : left ≤ 1048576) : Pure Try.prog 25 [.agg x.enc, .i left] (.one (.i (szF x.size left))) := by
  unfold Gx.Grid.ok at hx
  unfold Gx.Grid.size
  refine pure_of_body Try.tok Try.mixed Try.func25 (by kernel_rfl) ?_
  conv => whnf
  have w0 := wrap_in (n := left - (x.mCells.length : Int)) (by omega) (by omega)
  refine br_intro (fun h => ?_) (fun h => ?_)
  · simp only [decide_eq_true_eq] at h; rw [w0] at h
    conv => whnf
    exact neg_of (szF_no (by omega))
  simp only [decide_eq_false_iff_not] at h; rw [w0] at h
  try rw [w0]
  conv => whnf
  all_goals exact res_i (by first | (rw [szF_yes (by omega)]; done) | (rw [szF_yes (by omega)]; omega) | (rw [w0, szF_yes (by omega)]; done) | (rw [w0, szF_yes (by omega)]; omega))

theorem szListed (x : Gx.Listed) (hx : x.ok) (left : Int) (h0 : 0 ≤ left) (h1 : left ≤ 1048576) : Pure Try.prog 50 [.agg x.enc, .i left] (.one (.i (szF x.size left))) := by
  unfold Gx.Listed.ok at hx
  unfold Gx.Listed.size
  refine pure_of_body Try.tok Try.mixed Try.func50 (by kernel_rfl) ?_
  conv => whnf
  have w0 := wrap_in (n := left - (x.mWord.length : Int)) (by omega) (by omega)
  refine br_intro (fun h => ?_) (fun h => ?_)
  · simp only [decide_eq_true_eq] at h; rw [w0] at h
    conv => whnf
    exact neg_of (szF_no (by omega))
  simp only [decide_eq_false_iff_not] at h; rw [w0] at h
  try rw [w0]
  conv => whnf
  all_goals exact res_i (by first | (rw [szF_yes (by omega)]; done) | (rw [szF_yes (by omega)]; omega) | (rw [w0, szF_yes (by omega)]; done) | (rw [w0, szF_yes (by omega)]; omega))

theorem szMeaning (x : Gx.Meaning) (hx : x.ok) (left : Int) (h0 : 0 ≤ left) (h1 : left ≤ 1048576) : Pure Try.prog 51 [.agg x.enc, .i left] (.one (.i (szF x.size left))) := by
  unfold Gx.Meaning.ok at hx
  unfold Gx.Meaning.size
  refine pure_of_body Try.tok Try.mixed Try.func51 (by kernel_rfl) ?_
  conv => whnf
  have w0 := wrap_in (n := left - (x.mWord.length : Int)) (by omega) (by omega)
  refine br_intro (fun h => ?_) (fun h => ?_)
  · simp only [decide_eq_true_eq] at h; rw [w0] at h
    conv => whnf
    exact neg_of (szF_no (by omega))
  simp only [decide_eq_false_iff_not] at h; rw [w0] at h
  try rw [w0]
  conv => whnf
  all_goals exact res_i (by first | (rw [szF_yes (by omega)]; done) | (rw [szF_yes (by omega)]; omega) | (rw [w0, szF_yes (by omega)]; done) | (rw [w0, szF_yes (by omega)]; omega))

theorem szEvent (x : Gx.Event) (hx : x.ok) (left : Int) (h0 : 0 ≤ left) (h1 : left ≤ 1048576) : Pure Try.prog 42 [.agg x.enc, .i left] (.one (.i (szF x.size left))) := by
  unfold Gx.Event.ok at hx
  unfold Gx.Event.size
  refine pure_of_body Try.tok Try.mixed Try.func42 (by kernel_rfl) ?_
  conv => whnf
  have w0 := wrap_in (n := left - (x.mText.length : Int)) (by omega) (by omega)
  refine br_intro (fun h => ?_) (fun h => ?_)
  · simp only [decide_eq_true_eq] at h; rw [w0] at h
    conv => whnf
    exact neg_of (szF_no (by omega))
  simp only [decide_eq_false_iff_not] at h; rw [w0] at h
  try rw [w0]
  conv => whnf
  refine ⟨_, szGrid x.mGrid (by simp only [hx]) (left - (x.mText.length : Int)) (by omega) (by omega), ?_⟩
  conv => whnf
  refine br_intro (fun h => ?_) (fun h => ?_)
  · simp only [decide_eq_true_eq] at h
    have := szF_lt h (by omega)
    conv => whnf
    exact neg_of (szF_no (by omega))
  simp only [decide_eq_false_iff_not] at h
  obtain ⟨w1, w1'⟩ := szF_ge h
  try rw [w1]
  conv => whnf
  refine ⟨_, szClue x.mClue (by simp only [hx]) ((left - (x.mText.length : Int)) - ((x.mGrid.size : Nat) : Int)) (by omega) (by omega), ?_⟩
  conv => whnf
  refine br_intro (fun h => ?_) (fun h => ?_)
  · simp only [decide_eq_true_eq] at h
    have := szF_lt h (by omega)
    conv => whnf
    exact neg_of (szF_no (by omega))
  simp only [decide_eq_false_iff_not] at h
  obtain ⟨w2, w2'⟩ := szF_ge h
  try rw [w2]
  conv => whnf
  refine ⟨_, szListed x.mListed (by simp only [hx]) (((left - (x.mText.length : Int)) - ((x.mGrid.size : Nat) : Int)) - ((x.mClue.size : Nat) : Int)) (by omega) (by omega), ?_⟩
  conv => whnf
  refine br_intro (fun h => ?_) (fun h => ?_)
  · simp only [decide_eq_true_eq] at h
    have := szF_lt h (by omega)
    conv => whnf
    exact neg_of (szF_no (by omega))
  simp only [decide_eq_false_iff_not] at h
  obtain ⟨w3, w3'⟩ := szF_ge h
  try rw [w3]
  conv => whnf
  refine ⟨_, szMeaning x.mMeaning (by simp only [hx]) ((((left - (x.mText.length : Int)) - ((x.mGrid.size : Nat) : Int)) - ((x.mClue.size : Nat) : Int)) - ((x.mListed.size : Nat) : Int)) (by omega) (by omega), ?_⟩
  conv => whnf
  refine br_intro (fun h => ?_) (fun h => ?_)
  · simp only [decide_eq_true_eq] at h
    have := szF_lt h (by omega)
    conv => whnf
    exact neg_of (szF_no (by omega))
  simp only [decide_eq_false_iff_not] at h
  obtain ⟨w4, w4'⟩ := szF_ge h
  try rw [w4]
  conv => whnf
  all_goals exact res_i (by first | (rw [szF_yes (by omega)]; done) | (rw [szF_yes (by omega)]; omega) | (rw [w4, szF_yes (by omega)]; done) | (rw [w4, szF_yes (by omega)]; omega))

theorem szEventS (l : List (Gx.Event)) (hl : l.length ≤ 9223372036854775807) (hb : ∀ e ∈ l, e.ok) (left : Int) (h0 : 0 ≤ left) (h1 : left ≤ 1048576) : Pure Try.prog 29 [.one (.sl 16 (l.map Gx.Event.enc)), .i left] (.one (.i (szF (l.length + (l.map (fun e : Gx.Event => e.size)).sum) left))) := by
  have w0 := wrap_in (n := left - (l.length : Int)) (by omega) (by omega)
  refine pure_of_body Try.tok Try.mixed Try.func29 (by kernel_rfl) ?_
  conv => whnf
  refine br_intro (fun h => ?_) (fun h => ?_)
  · simp only [List.length_map, decide_eq_true_eq] at h; rw [w0] at h
    conv => whnf
    exact neg_of (szF_no (by omega))
  simp only [List.length_map, decide_eq_false_iff_not] at h; rw [w0] at h
  conv => whnf
  refine loop_intro (α := Nat) (fun i => ⟨[(0, .d (.sl 16 (l.map Gx.Event.enc))), (1, .d (.i (left - l.length - pre (fun e : Gx.Event => e.size) l i))), (5, .d (.i i))], [], 1000⟩)
    (fun i => i ≤ l.length ∧ 0 ≤ left - l.length - (pre (fun e : Gx.Event => e.size) l i : Int)) (fun i => l.length - i) 0 ?_ ⟨Nat.zero_le _, by rw [pre_zero]; omega⟩ ?_
  · (apply weak_of []; (repeat' (first | exact True.intro | rfl | exact fun h => h | refine And.intro ?_ ?_)); (all_goals (try conv => whnf)))
    · exact D_i' (by simp only [List.length_map]; rw [w0, pre_zero]; omega)
  intro i hi
  obtain ⟨hi, hp⟩ := hi
  conv => whnf
  refine br_intro (fun h => ?_) (fun h => ?_)
  · simp at h
    conv => whnf
    refine ⟨by simp; omega, ?_⟩
    intro row hr
    obtain ⟨x, hx, rfl⟩ := map_get hr
    have hx : l[i]? = some x := hx
    have hs := pre_succ (fun e : Gx.Event => e.size) l hx
    have hle := pre_le (fun e : Gx.Event => e.size) l (i + 1)
    have hbx := hb x (List.mem_of_getElem? hx)
    try dsimp only at hs
    conv => whnf
    refine ⟨_, szEvent x hbx _ (by omega) (by omega), ?_⟩
    conv => whnf
    refine br_intro (fun h2 => ?_) (fun h2 => ?_)
    · simp only [decide_eq_true_eq] at h2
      have h3 := szF_lt h2 hp
      conv => whnf
      exact neg_of (szF_no (by omega))
    · simp only [decide_eq_false_iff_not] at h2
      obtain ⟨h3, h4⟩ := szF_ge h2
      conv => whnf
      refine loop_next (i + 1) ?_ ?_ ?_
      · (apply weak_of []; (repeat' (first | exact True.intro | rfl | exact fun h => h | refine And.intro ?_ ?_)); (all_goals (try conv => whnf)))
        · exact D_i' (by rw [h3]; omega)
        · (first | rfl | (apply D_i'; (try rw [wrap_in]) <;> (first | omega | rfl)))
      · omega
      · exact ⟨by omega, by omega⟩
  · simp at h
    conv => whnf
    have := pre_all (fun e : Gx.Event => e.size) l h
    exact res_i (by rw [szF_yes (by omega)]; omega)

end Lw
end Go.Proofs
