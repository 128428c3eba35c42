import Derived.Test.YtfagjlbokkhpdaaAvFm
namespace Go.Proofs
open Go Go.Av
set_option maxRecDepth 100000
set_option linter.unusedVariables false
set_option linter.unusedSimpArgs false
namespace Lw
def isK (k : Int) (e : Gx.Event) : Nat := if e.mKind = k then 1 else 0
theorem isK_le (k : Int) (e : Gx.Event) : isK k e ≤ 1 := by unfold isK; split <;> omega
theorem implCountEvents (l : List Gx.Event) (k : Int) (h : l.length ≤ 1048576) : Pure Try.prog 32 [.one (.sl 16 (l.map Gx.Event.enc)), .i k] (.one (.i ((l.map (isK k)).sum : Nat))) := by
  refine pure_of_body Try.tok Try.mixed Try.func32 (by kernel_rfl) ?_
  conv => whnf
  refine loop_intro (α := Nat) (fun i => ⟨[(10, .d (.i i)), (9, .d (.i l.length)), (8, .d (.sl 16 (l.map Gx.Event.enc))), (5, .d (.i (pre (isK k) l i : Nat))), (1, .d (.i k))], [], 1000⟩) (fun i => i ≤ l.length) (fun i => l.length - i) 0 ?_ (Nat.zero_le _) ?_
  · (apply weak_of []; (repeat' (first | exact True.intro | rfl | exact fun h => h | refine And.intro ?_ ?_)); (all_goals (try conv => whnf)))
    · exact D_i' (by simp)
  intro i hi
  conv => whnf
  refine br_intro (fun h1 => ?_) (fun h1 => ?_)
  · simp at h1
    conv => whnf
    refine ⟨by simp; omega, ?_⟩
    intro row hr
    obtain ⟨x, hx, rfl⟩ := map_get hr
    have hx : l[i]? = some x := hx
    have hs := pre_succ (isK k) l hx
    have hle := pre_le1 (isK_le k) l i
    conv => whnf
    refine br_intro (fun h2 => ?_) (fun h2 => ?_)
    · have h2 : x.mKind = k := by simpa using h2
      have e1 : isK k x = 1 := by unfold isK; rw [if_pos h2]
      conv => whnf
      refine loop_next (i + 1) ?_ ?_ ?_
      · (apply weak_of []; (repeat' (first | exact True.intro | rfl | exact fun h => h | refine And.intro ?_ ?_)); (all_goals (try conv => whnf)))
        · (first | rfl | (apply D_i'; (try rw [wrap_in]) <;> (first | omega | rfl)))
        · (first | rfl | (apply D_i'; (try rw [wrap_in]) <;> (first | omega | rfl)))
      · omega
      · omega
    · have h2 : ¬ x.mKind = k := by simpa using h2
      have e1 : isK k x = 0 := by unfold isK; rw [if_neg h2]
      conv => whnf
      refine loop_next (i + 1) ?_ ?_ ?_
      · (apply weak_of []; (repeat' (first | exact True.intro | rfl | exact fun h => h | refine And.intro ?_ ?_)); (all_goals (try conv => whnf)))
        · (first | rfl | (apply D_i'; (try rw [wrap_in]) <;> (first | omega | rfl)))
        · exact D_i (by omega)
      · omega
      · omega
  · simp at h1
    conv => whnf
    exact congrArg DV.one (D_i (by rw [pre_all _ _ h1]))
theorem specCountEvents (l : List Gx.Event) (k : Int) (h : l.length ≤ 1048576) : Pure Try.prog 30 [.one (.sl 16 (l.map Gx.Event.enc)), .i k] (.one (.i ((l.map (isK k)).sum : Nat))) := by
  refine pure_of_body Try.tok Try.mixed Try.func30 (by kernel_rfl) ?_
  conv => whnf
  refine loop_intro (α := Nat) (fun i => ⟨[(6, .d (.i i)), (0, .d (.sl 16 (l.map Gx.Event.enc))), (5, .d (.i (pre (isK k) l i : Nat))), (1, .d (.i k))], [], 1000⟩) (fun i => i ≤ l.length) (fun i => l.length - i) 0 ?_ (Nat.zero_le _) ?_
  · (apply weak_of []; (repeat' (first | exact True.intro | rfl | exact fun h => h | refine And.intro ?_ ?_)); (all_goals (try conv => whnf)))
  intro i hi
  conv => whnf
  refine br_intro (fun h1 => ?_) (fun h1 => ?_)
  · simp at h1
    conv => whnf
    refine ⟨by simp; omega, ?_⟩
    intro row hr
    obtain ⟨x, hx, rfl⟩ := map_get hr
    have hx : l[i]? = some x := hx
    have hs := pre_succ (isK k) l hx
    have hle := pre_le1 (isK_le k) l i
    conv => whnf
    refine br_intro (fun h2 => ?_) (fun h2 => ?_)
    · have h2 : x.mKind = k := by simpa using h2
      have e1 : isK k x = 1 := by unfold isK; rw [if_pos h2]
      conv => whnf
      refine loop_next (i + 1) ?_ ?_ ?_
      · (apply weak_of []; (repeat' (first | exact True.intro | rfl | exact fun h => h | refine And.intro ?_ ?_)); (all_goals (try conv => whnf)))
        · (first | rfl | (apply D_i'; (try rw [wrap_in]) <;> (first | omega | rfl)))
        · (first | rfl | (apply D_i'; (try rw [wrap_in]) <;> (first | omega | rfl)))
      · omega
      · omega
    · have h2 : ¬ x.mKind = k := by simpa using h2
      have e1 : isK k x = 0 := by unfold isK; rw [if_neg h2]
      conv => whnf
      refine loop_next (i + 1) ?_ ?_ ?_
      · (apply weak_of []; (repeat' (first | exact True.intro | rfl | exact fun h => h | refine And.intro ?_ ?_)); (all_goals (try conv => whnf)))
        · (first | rfl | (apply D_i'; (try rw [wrap_in]) <;> (first | omega | rfl)))
        · exact D_i (by omega)
      · omega
      · omega
  · simp at h1
    conv => whnf
    exact congrArg DV.one (D_i (by rw [pre_all _ _ h1]))

theorem law (l : List Gx.Event) (hl : l.length ≤ 9223372036854775807) (hb : ∀ e ∈ l, e.ok) (k : Int) : Pure Try.prog 8 [.one (.sl 16 (l.map Gx.Event.enc)), .i k] (.one (.b true)) := by
  refine pure_of_body Try.tok Try.mixed Try.func8 (by kernel_rfl) ?_
  conv => whnf
  refine ⟨_, szEventS l hl hb 1048576 (by omega) (by omega), ?_⟩
  conv => whnf
  refine br_intro (fun h => ?_) (fun h => ?_)
  · conv => whnf
  simp only [decide_eq_false_iff_not] at h
  obtain ⟨_, h1⟩ := szF_ge h
  have h1 : l.length + (l.map (fun e : Gx.Event => e.size)).sum ≤ 1048576 := by omega
  conv => whnf
  refine ⟨_, toEventS l h1, ?_⟩
  conv => whnf
  refine ⟨_, specCountEvents l k (by omega), ?_⟩
  conv => whnf
  refine ⟨_, toEventS l h1, ?_⟩
  conv => whnf
  refine ⟨_, implCountEvents l k (by omega), ?_⟩
  conv => whnf
  refine br_intro (fun h => absurd h (by simp)) (fun h => ?_)
  conv => whnf
  refine ⟨_, toEventS l h1, ?_⟩
  conv => whnf
  refine ⟨_, eqEventS l h1, ?_⟩
  conv => whnf
end Lw
end Go.Proofs
