/- ABSTRACT VALUES: strconv.Itoa over data. -/
import Derived.Test.YtgmppfmemimkkaaDoorAvTc
import Derived.Lib.ItoaNum
import Derived.Sort.Grow
import Derived.Sort.Row
import Derived.Deep.Draws
namespace Go.Av
open Go Go.Gx Go.RowKit
set_option linter.unusedVariables false
set_option linter.unusedSimpArgs false

theorem below_grow (w : World) (k : Nat) (os : Array Obj) : Below w.heap.size w (Sort.grow (w.drewN k) os) :=
 ⟨rfl, rfl, rfl, by simp [Sort.grow, Go.World.drewN], fun b hb => by
  show (w.heap ++ os)[b]? = w.heap[b]?
  exact Array.getElem?_append_left hb⟩

/-- strconv.Itoa: the world's table is where it was laid -/
theorem pure_itoa {P : Program} {F : Nat} (hfn : ∃ fn, P.funcs[F]? = some fn ∧ (fn.name == "runtime.NumGoroutine") = false ∧ fn.body.isNone = false)
  (hg : (P.globalNamed "internal/strconv.uint64pow10").isSome = true)
  (H : ∀ (n : Int), -9223372036854775808 ≤ n → n ≤ 9223372036854775807 → ∀ w : World, Lib.TabIs P w "internal/strconv.uint64pow10" .u64 Lib.pow10Tab →
   Calls P F #[.int .i64 n] w fun e w' => e = .returned (.string ⟨(Lib.itoa n).toArray⟩) ∧ ∃ k os, w' = Sort.grow (w.drewN k) os)
  (n : Int) (h0 : -9223372036854775808 ≤ n) (h1 : n ≤ 9223372036854775807) : Pure P F [.one (.i n)] (.one (.s (Lib.itoa n))) where
 fn := hfn
 calls := fun w vs hi ha => by
  obtain ⟨hl, ha⟩ := ha
  obtain ⟨g, hg⟩ := Option.isSome_iff_exists.1 hg
  match vs, hl with
  | [v], _ =>
   have h := ha 0 (by simp)
   have hv : v = .int .i64 n := by
    cases h with | d _ _ h => cases h; rfl
   subst hv
   refine (H n h0 h1 w (hi.tab hg)).mono fun e w' he => ?_
   obtain ⟨rfl, k, os, rfl⟩ := he
   refine ⟨below_grow w k os, [], .one _ _ _ (.v _ rfl), List.nodup_nil, by simp⟩
end Go.Av
