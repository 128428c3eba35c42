/- strings.Join, orDash, FormatWords: walked over data. -/
import Derived.Test.YtfagjlbokkhpdaaAvFm
import Derived.Test.YtfagjlbokkhpdaaAvJn
import Derived.Test.YtfagjlbokkhpdaaAvShelf
namespace Go.Proofs
open Go Go.Av
set_option maxRecDepth 100000
set_option linter.unusedVariables false
set_option linter.unusedSimpArgs false
namespace Lw
theorem stringsJoin (l : List (List UInt8)) (sep : List UInt8) (hN : l.length ≤ 140737488355328) (hlen : (Lib.join l sep).length ≤ 140737488355328) : Pure Try.prog 45 [.one (.sl 1 (l.map Gx.encS)), .s sep] (.one (.s (Lib.join l sep))) :=
  pure_join ⟨Try.f45, Try.func45, by kernel_rfl, by kernel_rfl⟩ Try.strings_Join_none Try.strings_Join l sep hN hlen
/-- a list of words, with a separator; '-' for none -/
def dash (l : List (List UInt8)) (sep : List UInt8) : List UInt8 := match l with | [] => [45] | l => Lib.join l sep
theorem orDash (l : List (List UInt8)) (sep : List UInt8) (hN : l.length ≤ 140737488355328) (hlen : (Lib.join l sep).length ≤ 140737488355328) : Pure Try.prog 38 [.one (.sl 1 (l.map Gx.encS)), .s sep] (.one (.s (dash l sep))) := by
  refine pure_of_body Try.tok Try.mixed Try.func38 (by kernel_rfl) ?_
  conv => whnf
  refine br_intro (fun h => ?_) (fun h => ?_)
  · have : l = [] := by cases l <;> simp at h ⊢; omega
    subst this
    conv => whnf
    rfl
  · have hne : l ≠ [] := by rintro rfl; simp at h
    conv => whnf
    refine ⟨_, stringsJoin l sep hN hlen, ?_⟩
    conv => whnf
    cases l with
    | nil => exact absurd rfl hne
    | cons x l => rfl
theorem D_s {a b : List UInt8} (h : a = b) : D.v (.string ⟨⟨a⟩⟩) = D.s b := by rw [h]
theorem join_take_le (l : List (List UInt8)) (sep : List UInt8) (i : Nat) : (Lib.join (l.take i) sep).length ≤ sep.length * l.length + (l.map List.length).sum := by
  have h1 := join_le (l.take i) sep
  have h2 := pre_le List.length l i
  have h3 : (l.take i).length ≤ l.length := by simp; omega
  have h4 := Nat.mul_le_mul_left sep.length h3
  unfold pre at h2
  omega
theorem join_take_succ (l : List (List UInt8)) (sep : List UInt8) {i : Nat} {x : List UInt8} (hx : l[i]? = some x) (h0 : 0 < i) : Lib.join (l.take (i + 1)) sep = Lib.join (l.take i) sep ++ sep ++ x := by
  rw [List.take_add_one, hx]
  have hi : i < l.length := (List.getElem?_eq_some_iff.1 hx).1
  exact join_snoc _ _ _ (by intro h; have h2 : (l.take i).length = 0 := by rw [h]; rfl
                            rw [List.length_take] at h2; omega)
theorem l39Join (l : List (List UInt8)) (sep : List UInt8) (hN : l.length ≤ 1048576) (hlen : sep.length * l.length + (l.map List.length).sum ≤ 2305843009213693952) : Pure Try.prog 37 [.one (.sl 1 (l.map Gx.encS)), .s sep] (.one (.s (dash l sep))) := by
  refine pure_of_body Try.tok Try.mixed Try.func37 (by kernel_rfl) ?_
  conv => whnf
  refine loop_intro (α := Nat) (fun i => ⟨[(0, .d (.sl 1 (l.map Gx.encS))), (1, .d (.s sep)), (5, .d (.s (Lib.join (l.take i) sep))), (6, .d (.i i))], [], 1000⟩) (fun i => i ≤ l.length) (fun i => l.length - i) 0 ?_ (Nat.zero_le _) ?_
  · (apply weak_of []; (repeat' (first | exact True.intro | rfl | exact fun h => h | refine And.intro ?_ ?_)); (all_goals (try conv => whnf)))
  intro i hi
  have hj := join_take_le l sep i
  conv => whnf
  refine br_intro (fun h => ?_) (fun h => ?_)
  · simp at h
    obtain ⟨x, hx⟩ : ∃ x, l[i]? = some x := ⟨_, List.getElem?_eq_getElem h⟩
    have hjs := join_take_le l sep (i + 1)
    conv => whnf
    refine br_intro (fun h2 => ?_) (fun h2 => ?_)
    · have h2 : 0 < i := by simp at h2; omega
      have hs := join_take_succ l sep hx h2
      have hs2 : (Lib.join (l.take (i + 1)) sep).length = (Lib.join (l.take i) sep).length + sep.length + x.length := by rw [hs]; simp; omega
      conv => whnf
      refine ⟨by omega, ?_⟩
      conv => whnf
      refine ⟨by simp; omega, ?_⟩
      intro row hr
      obtain ⟨y, hy, rfl⟩ := map_get hr
      have hxy : x = y := Option.some.inj (hx.symm.trans hy)
      subst hxy
      conv => whnf
      refine ⟨by simp only [List.length_append]; omega, ?_⟩
      conv => whnf
      refine loop_next (i + 1) ?_ ?_ ?_
      · (apply weak_of []; (repeat' (first | exact True.intro | rfl | exact fun h => h | refine And.intro ?_ ?_)); (all_goals (try conv => whnf)))
        · exact D_s hs.symm
        · (first | rfl | (apply D_i'; (try rw [wrap_in]) <;> (first | omega | rfl)))
      · omega
      · omega
    · have h2 : i = 0 := by simp at h2; omega
      subst h2
      have hs : Lib.join (l.take 1) sep = x := by
        rw [show (1 : Nat) = 0 + 1 from rfl, List.take_add_one, hx]; simp [Lib.join, List.intercalate]
      conv => whnf
      refine ⟨by simp; omega, ?_⟩
      intro row hr
      obtain ⟨y, hy, rfl⟩ := map_get hr
      have hxy : x = y := Option.some.inj (hx.symm.trans hy)
      subst hxy
      have hs2 : (Lib.join (l.take (0 + 1)) sep).length = x.length := by rw [show (0 : Nat) + 1 = 1 from rfl, hs]
      conv => whnf
      refine ⟨by simp [Lib.join, List.intercalate]; omega, ?_⟩
      conv => whnf
      refine loop_next 1 ?_ ?_ ?_
      · (apply weak_of []; (repeat' (first | exact True.intro | rfl | exact fun h => h | refine And.intro ?_ ?_)); (all_goals (try conv => whnf)))
        · exact D_s (by rw [hs]; simp [Lib.join, List.intercalate])
      · omega
      · omega
  · simp at h
    conv => whnf
    refine br_intro (fun h2 => ?_) (fun h2 => ?_)
    · have : l = [] := by cases l <;> simp at h2 ⊢; omega
      subst this
      conv => whnf
      rfl
    · conv => whnf
      have hne : l ≠ [] := by rintro rfl; simp at h2
      refine congrArg DV.one (D_s ?_)
      rw [List.take_of_length_le h]
      cases l with
      | nil => exact absurd rfl hne
      | cons x l => rfl
theorem sFormatWords (l : List (List UInt8)) (h : l.length + (l.map List.length).sum ≤ 1048576) : Pure Try.prog 17 [.one (.sl 1 (l.map Gx.encS))] (.one (.s (dash l [32]))) := by
  refine pure_of_body Try.tok Try.mixed Try.func17 (by kernel_rfl) ?_
  conv => whnf
  refine ⟨_, l39Join l [32] (by omega) (by simp only [List.length_cons, List.length_nil]; omega), ?_⟩
  conv => whnf
theorem iFormatWords (l : List (List UInt8)) (h : l.length + (l.map List.length).sum ≤ 1048576) : Pure Try.prog 19 [.one (.sl 1 (l.map Gx.encS))] (.one (.s (dash l [32]))) := by
  have := join_le l [32]
  refine pure_of_body Try.tok Try.mixed Try.func19 (by kernel_rfl) ?_
  conv => whnf
  refine ⟨_, orDash l [32] (by omega) (by simp only [List.length_cons, List.length_nil] at this; omega), ?_⟩
  conv => whnf
theorem lawFormatWords (l : List (List UInt8)) (hl : l.length ≤ 9223372036854775807) (hb : ∀ e ∈ l, e.length ≤ 9223372036854775807) : Pure Try.prog 5 [.one (.sl 1 (l.map Gx.encS))] (.one (.b true)) := by
  refine pure_of_body Try.tok Try.mixed Try.func5 (by kernel_rfl) ?_
  conv => whnf
  refine ⟨_, szStringS l hl hb 1048576 (by omega) (by omega), ?_⟩
  conv => whnf
  refine br_intro (fun h => ?_) (fun h => ?_)
  · conv => whnf
  simp only [decide_eq_false_iff_not] at h
  obtain ⟨_, h1⟩ := szF_ge h
  have h1 : l.length + (l.map (fun e : List UInt8 => e.length)).sum ≤ 1048576 := by omega
  conv => whnf
  refine ⟨_, toStringS l h1, ?_⟩
  conv => whnf
  refine ⟨_, sFormatWords l h1, ?_⟩
  conv => whnf
  refine ⟨_, toStringS l h1, ?_⟩
  conv => whnf
  refine ⟨_, iFormatWords l h1, ?_⟩
  conv => whnf
  refine br_intro (fun h => absurd h (by simp)) (fun h => ?_)
  conv => whnf
  refine ⟨_, toStringS l h1, ?_⟩
  conv => whnf
  refine ⟨_, eqStringS l h1, ?_⟩
  conv => whnf
end Lw
end Go.Proofs
