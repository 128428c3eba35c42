/- ABSTRACT VALUES: strings.ReplaceAll, one letter by another, over data. -/
import Derived.Test.YtniibgdokfnomaaGreatDoorAvTc
import Derived.Lib.Replace
import Derived.Lib.ReplaceLaws
namespace Go.Av
open Go Go.Gx Go.RowKit
set_option linter.unusedVariables false
set_option linter.unusedSimpArgs false

/-- a variable that holds an int in every shaped world -/
theorem Inv.int {P : Program} {w : World} {U : Nat → Prop} (h : Inv P w U) {g : Nat} (hg : g < P.globals.size) (hs : ∀ w' : World, w'.ShapedOpen P → ∃ m, w'.cell? ⟨g, 0, none⟩ = some (.int .i64 m)) : ∃ m, w.cell? ⟨g, 0, none⟩ = some (.int .i64 m) := by
 obtain ⟨w1, ⟨h1, _⟩, h3⟩ := h
 obtain ⟨m, hm⟩ := hs w1 h1
 refine ⟨m, ?_⟩
 cases ho : w1.heap[g]? with
 | none => simp [World.cell?, ho] at hm
 | some o =>
  have := (h3 g o hg ho).1
  simp only [World.cell?, ho] at hm
  simp only [World.cell?, this]
  exact hm

theorem pure_replace {P : Program} {F g : Nat} (hfn : ∃ fn, P.funcs[F]? = some fn ∧ (fn.name == "runtime.NumGoroutine") = false ∧ fn.body.isNone = false) (hg : Nat.blt g P.globals.size = true)
  (hs : ∀ w' : World, w'.ShapedOpen P → ∃ m, w'.cell? ⟨g, 0, none⟩ = some (.int .i64 m))
  (H : ∀ (s old new : ByteArray) (m : Int) (w : World), s.size < 4294967281 → w.cell? ⟨g, 0, none⟩ = some (.int .i64 m) → 1 ≤ old.size → s.size + Lib.countB s old * new.size ≤ 140737488355328 →
   Calls P F #[.string s, .string old, .string new] w fun e w' => e = .returned (.string ⟨(Lib.replaceAll s.data.toList old.data.toList new.data.toList).toArray⟩) ∧ Below w.heap.size w w')
  (s old new : List UInt8) (h1 : s.length ≤ 1048576) (h2 : old.length = 1) (h3 : new.length = 1) : Pure P F [.one (.s s), .one (.s old), .one (.s new)] (.one (.s (Lib.replaceAll s old new))) where
 fn := hfn
 calls := fun w vs hi ha => by
  obtain ⟨hl, ha⟩ := ha
  match vs, hl with
  | [v0, v1, v2], _ =>
   have rd : ∀ (x : List UInt8) (v : Value), DataV (· < w.heap.size) (hp w) (.one (.s x)) v → v = .string ⟨⟨x⟩⟩ := by
    intro x v h
    have h : RV (· < w.heap.size) (hp w) noG (fun _ => none) (fun _ => False) (.d (.v (.string ⟨⟨x⟩⟩))) v := h
    exact (rv_v h).1
   have e0 := rd s v0 (ha 0 (by simp))
   have e1 := rd old v1 (ha 1 (by simp))
   have e2 := rd new v2 (ha 2 (by simp))
   subst e0; subst e1; subst e2
   obtain ⟨m, hm⟩ := hi.int (by simpa [Nat.blt_eq] using hg) hs
   have hc : Lib.countB ⟨⟨s⟩⟩ ⟨⟨old⟩⟩ ≤ s.length + 1 := Lib.count_le s old
   have hsz : (⟨⟨s⟩⟩ : ByteArray).size = s.length := rfl
   have hoz : (⟨⟨old⟩⟩ : ByteArray).size = old.length := rfl
   have hnz : (⟨⟨new⟩⟩ : ByteArray).size = new.length := rfl
   refine (H ⟨⟨s⟩⟩ ⟨⟨old⟩⟩ ⟨⟨new⟩⟩ m w (by omega) hm (by omega) (by rw [hnz, h3, hsz]; omega)).mono fun e w' he => ?_
   obtain ⟨rfl, hb⟩ := he
   exact ⟨hb, [], .one _ _ _ (.v _ rfl), List.nodup_nil, by simp⟩

/-- one letter for another -/
theorem replaceK_one (c d : UInt8) : ∀ s : List UInt8, Lib.replaceK [c] [d] (Lib.count s [c]) s = s.map fun x => if x = c then d else x
 | [] => rfl
 | b :: l => by
  have ih := replaceK_one c d l
  have e0 : Lib.index (b :: l) [c] = if [c].isPrefixOf (b :: l) then 0 else if Lib.index l [c] == -1 then -1 else Lib.index l [c] + 1 := rfl
  by_cases hbc : b = c
  ·subst hbc
   have e1 : Lib.index (b :: l) [b] = ((0 : Nat) : Int) := by rw [e0]; simp [List.isPrefixOf]
   rw [Lib.count_hit (by simp) e1]
   simp only [Nat.zero_add, List.length_singleton, List.drop_succ_cons, List.drop_zero]
   rw [Nat.add_comm, Lib.replaceK_hit _ _ _ _ 0 e1]
   simp only [List.take_zero, List.nil_append, Nat.zero_add, List.length_singleton, List.drop_succ_cons, List.drop_zero, List.map_cons, if_true]
   rw [ih]
   rfl
  ·have e1 : [c].isPrefixOf (b :: l) = false := by simp [List.isPrefixOf]; exact fun h => hbc h.symm
   rw [e1] at e0
   simp only [Bool.false_eq_true, if_false] at e0
   by_cases hm : Lib.index l [c] = -1
   ·have e2 : Lib.index (b :: l) [c] = -1 := by rw [e0, hm]; rfl
    rw [Lib.count_miss e2]
    rw [Lib.count_miss hm] at ih
    simp only [Lib.replaceK] at ih ⊢
    rw [List.map_cons, if_neg hbc, ← ih]
   ·have hge := Lib.index_ge l [c]
    obtain ⟨i, hi⟩ : ∃ i : Nat, Lib.index l [c] = i := ⟨(Lib.index l [c]).toNat, by omega⟩
    have e2 : Lib.index (b :: l) [c] = ((i + 1 : Nat) : Int) := by
     rw [e0, hi, if_neg (by rw [beq_iff_eq]; omega)]; omega
    rw [Lib.count_hit (by simp) hi, Nat.add_comm, Lib.replaceK_hit _ _ _ _ i hi] at ih
    rw [Lib.count_hit (by simp) e2, Nat.add_comm, Lib.replaceK_hit _ _ _ _ (i + 1) e2]
    have e3 : i + 1 + [c].length = (i + [c].length) + 1 := by simp
    rw [e3]
    simp only [List.take_succ_cons, List.drop_succ_cons, List.cons_append, List.map_cons, if_neg hbc]
    rw [ih]
theorem replaceAll_one {c d : UInt8} (h : c ≠ d) (s : List UInt8) : Lib.replaceAll s [c] [d] = s.map fun x => if x = c then d else x := by
 unfold Lib.replaceAll Lib.replace Lib.replaceNum
 rw [if_neg (by simpa using h), if_pos (.inl (by decide))]
 exact replaceK_one c d s
end Go.Av
