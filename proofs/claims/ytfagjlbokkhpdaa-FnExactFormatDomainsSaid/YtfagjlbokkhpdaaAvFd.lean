/- FormatDomains: walked over data. -/
import Derived.Test.YtfagjlbokkhpdaaAvFw
namespace Go.Proofs
open Go Go.Av
set_option maxRecDepth 100000
set_option linter.unusedVariables false
set_option linter.unusedSimpArgs false
namespace Lw
def eD (d : List (List UInt8)) : List D := [D.s (dash d [44])]
def sD (e : List (List UInt8)) : Nat := e.length + (e.map fun ee => ee.length).sum
theorem dash_le (d : List (List UInt8)) (sep : List UInt8) : (dash d sep).length ≤ 1 + sep.length * d.length + (d.map List.length).sum := by
  cases d with
  | nil => simp [dash]
  | cons x d => have := join_le (x :: d) sep; show (Lib.join (x :: d) sep).length ≤ _; omega
theorem dashes_le (l : List (List (List UInt8))) : ((l.map fun d => dash d [44]).map List.length).sum ≤ l.length + (l.map sD).sum := by
  induction l with
  | nil => simp
  | cons d l ih =>
    have := dash_le d [44]
    simp only [List.map_cons, List.sum_cons, List.length_cons, List.length_nil] at this ih ⊢
    have e0 : sD d = d.length + (d.map fun ee => ee.length).sum := rfl
    have e : (d.map List.length).sum = (d.map fun ee => ee.length).sum := rfl
    omega
theorem eD_map (l : List (List (List UInt8))) : l.map eD = (l.map fun d => dash d [44]).map Gx.encS := by simp [eD, Function.comp_def]
theorem iFormatDomains (l : List (List (List UInt8))) (h : l.length + (l.map sD).sum ≤ 1048576) :
    Pure Try.prog 23 [.one (.sl 1 (l.map (fun x => [D.sl 1 (x.map Gx.encS)])))] (.one (.s (dash (l.map fun d => dash d [44]) [32]))) := by
  refine pure_of_body Try.tok Try.mixed Try.func23 (by kernel_rfl) ?_
  conv => whnf
  refine loop_intro (α := Nat) (fun i => ⟨[(8, .d (.i i)), (7, .d (.i l.length)), (6, .d (.sl 1 (l.map (fun x => [D.sl 1 (x.map Gx.encS)])))), (3, .sl 1)], [(1, some (.arr 1 ((l.take i).map eD) true))], 1000⟩) (fun i => i ≤ l.length) (fun i => l.length - i) 0 ?_ (Nat.zero_le _) ?_
  · (apply weak_auto; (repeat' (first | exact True.intro | rfl | exact fun h => h | refine And.intro ?_ ?_)); (all_goals (try conv => whnf)))
    · exact Nat.le_refl _
    · exact D_i (by simp)
  intro i hi
  conv => whnf
  refine br_intro (fun h1 => ?_) (fun h1 => ?_)
  · simp at h1
    conv => whnf
    refine ⟨by simp; omega, ?_⟩
    intro row hr
    obtain ⟨x, hx, rfl⟩ := map_get hr
    have hx : l[i]? = some x := hx
    have hms := mem_sum sD (List.mem_of_getElem? hx)
    have hj := join_le x [44]
    simp only [List.length_cons, List.length_nil] at hj
    have ej : (x.map List.length).sum = (x.map fun ee => ee.length).sum := rfl
    have hsx : sD x = x.length + (x.map fun ee => ee.length).sum := rfl
    conv => whnf
    refine ⟨_, orDash x [44] (by omega) (by omega), ?_⟩
    conv => whnf
    refine ⟨?_, ?_, ?_⟩
    · refine ⟨?_, ?_⟩ <;> simp [List.length_take, TI.bytes] <;> omega
    · intro h; simp at h
    conv => whnf
    refine loop_next (i + 1) ?_ ?_ ?_
    · (apply weak_auto; (repeat' (first | exact True.intro | rfl | exact fun h => h | refine And.intro ?_ ?_)); (all_goals (try conv => whnf)))
      · exact made_succ eD hx rfl
      · (first | rfl | (apply D_i'; (try rw [wrap_in]) <;> (first | omega | rfl)))
    · omega
    · omega
  · simp at h1
    have hd := dashes_le l
    have hjj := join_le (l.map fun d => dash d [44]) [32]
    simp only [List.length_cons, List.length_nil, List.length_map] at hjj
    rw [made_all eD h1]
    rw [eD_map]
    conv => whnf
    refine ⟨_, orDash (l.map fun d => dash d [44]) [32] (by simp only [List.length_map]; omega) (by omega), ?_⟩
    conv => whnf
theorem sFormatDomains (l : List (List (List UInt8))) (h : l.length + (l.map sD).sum ≤ 1048576) :
    Pure Try.prog 21 [.one (.sl 1 (l.map (fun x => [D.sl 1 (x.map Gx.encS)])))] (.one (.s (dash (l.map fun d => dash d [44]) [32]))) := by
  refine pure_of_body Try.tok Try.mixed Try.func21 (by kernel_rfl) ?_
  conv => whnf
  refine loop_intro (α := Nat) (fun i => ⟨[(4, .d (.i i)), (0, .d (.sl 1 (l.map (fun x => [D.sl 1 (x.map Gx.encS)])))), (3, .sl 1)], [(1, some (.arr 1 ((l.take i).map eD) true))], 1000⟩) (fun i => i ≤ l.length) (fun i => l.length - i) 0 ?_ (Nat.zero_le _) ?_
  · (apply weak_auto; (repeat' (first | exact True.intro | rfl | exact fun h => h | refine And.intro ?_ ?_)); (all_goals (try conv => whnf)))
  intro i hi
  conv => whnf
  refine br_intro (fun h1 => ?_) (fun h1 => ?_)
  · simp at h1
    conv => whnf
    refine ⟨by simp; omega, ?_⟩
    intro row hr
    obtain ⟨x, hx, rfl⟩ := map_get hr
    have hx : l[i]? = some x := hx
    have hms := mem_sum sD (List.mem_of_getElem? hx)
    have hj := join_le x [44]
    simp only [List.length_cons, List.length_nil] at hj
    have ej : (x.map List.length).sum = (x.map fun ee => ee.length).sum := rfl
    have hsx : sD x = x.length + (x.map fun ee => ee.length).sum := rfl
    conv => whnf
    refine ⟨_, l39Join x [44] (by omega) (by simp only [List.length_cons, List.length_nil]; omega), ?_⟩
    conv => whnf
    refine ⟨?_, ?_, ?_⟩
    · refine ⟨?_, ?_⟩ <;> simp [List.length_take, TI.bytes] <;> omega
    · intro h; simp at h
    conv => whnf
    refine loop_next (i + 1) ?_ ?_ ?_
    · (apply weak_auto; (repeat' (first | exact True.intro | rfl | exact fun h => h | refine And.intro ?_ ?_)); (all_goals (try conv => whnf)))
      · exact made_succ eD hx rfl
      · (first | rfl | (apply D_i'; (try rw [wrap_in]) <;> (first | omega | rfl)))
    · omega
    · omega
  · simp at h1
    have hd := dashes_le l
    have hjj := join_le (l.map fun d => dash d [44]) [32]
    simp only [List.length_cons, List.length_nil, List.length_map] at hjj
    rw [made_all eD h1]
    rw [eD_map]
    conv => whnf
    refine ⟨_, l39Join (l.map fun d => dash d [44]) [32] (by simp only [List.length_map]; omega) (by simp only [List.length_map, List.length_cons, List.length_nil]; omega), ?_⟩
    conv => whnf
theorem lawFormatDomains (l : List (List (List UInt8))) (hl : l.length ≤ 9223372036854775807) (hb : ∀ e ∈ l, e.length ≤ 9223372036854775807 ∧ ∀ ee ∈ e, ee.length ≤ 9223372036854775807) :
    Pure Try.prog 6 [.one (.sl 1 (l.map (fun x => [D.sl 1 (x.map Gx.encS)])))] (.one (.b true)) := by
  refine pure_of_body Try.tok Try.mixed Try.func6 (by kernel_rfl) ?_
  conv => whnf
  refine ⟨_, szStringSS l hl hb 1048576 (by omega) (by omega), ?_⟩
  conv => whnf
  refine br_intro (fun h => ?_) (fun h => ?_)
  · conv => whnf
  simp only [decide_eq_false_iff_not] at h
  obtain ⟨_, h1⟩ := szF_ge h
  have h1 : l.length + (l.map (fun e : List (List UInt8) => e.length + (e.map fun ee => ee.length).sum)).sum ≤ 1048576 := by omega
  conv => whnf
  refine ⟨_, toStringSS l h1, ?_⟩
  conv => whnf
  refine ⟨_, sFormatDomains l h1, ?_⟩
  conv => whnf
  refine ⟨_, toStringSS l h1, ?_⟩
  conv => whnf
  refine ⟨_, iFormatDomains l h1, ?_⟩
  conv => whnf
  refine br_intro (fun h => absurd h (by simp)) (fun h => ?_)
  conv => whnf
  refine ⟨_, toStringSS l h1, ?_⟩
  conv => whnf
  refine ⟨_, eqStringSS l h1, ?_⟩
  conv => whnf
end Lw
end Go.Proofs
