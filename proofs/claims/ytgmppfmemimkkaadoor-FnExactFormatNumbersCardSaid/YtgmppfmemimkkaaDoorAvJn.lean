/- ABSTRACT VALUES: strings.Join over data. -/
import Derived.Test.YtgmppfmemimkkaaDoorAvTc
import Derived.Lib.Join
namespace Go.Av
open Go Go.Gx Go.RowKit
set_option linter.unusedVariables false
set_option linter.unusedSimpArgs false

theorem bytes_back (l : List (List UInt8)) : (l.map fun s => (⟨⟨s⟩⟩ : ByteArray)).map (·.data.toList) = l := by
 induction l with
 | nil => rfl
 | cons x l ih => simp only [List.map_cons, ih]

theorem flat_strs (l : List (List UInt8)) (j : Nat) : (l.map encS).flatten.getD j default = (match l[j]? with | some s => D.s s | none => default) := by
 induction l generalizing j with
 | nil => simp
 | cons x l ih =>
  cases j with
  | zero => rfl
  | succ j => simpa [encS] using ih j

theorem pure_join {P : Program} {F : FuncId} (hfn : ∃ fn, P.funcs[F]? = some fn ∧ (fn.name == "runtime.NumGoroutine") = false ∧ fn.body.isNone = false)
  (h0 : ∀ (a : Option Addr) (c : Nat) (sep : ByteArray) (w : World), Calls P F #[.slice a 0 c, .string sep] w fun e w' => e = .returned (.string ⟨#[]⟩) ∧ w' = w)
  (h1 : ∀ (bk o c : Nat) (xs : List ByteArray) (sep : ByteArray) (w : World), (∀ (j : Nat) x, xs[j]? = some x → w.cell? ⟨bk, o + j, none⟩ = some (.string x)) → bk < w.heap.size → xs.length ≤ 140737488355328 → xs.length ≤ c →
   (Lib.join (xs.map (·.data.toList)) sep.data.toList).length ≤ 140737488355328 →
   Calls P F #[.slice (some ⟨bk, o, none⟩) xs.length c, .string sep] w fun e w' => e = .returned (.string ⟨(Lib.join (xs.map (·.data.toList)) sep.data.toList).toArray⟩) ∧ Below w.heap.size w w')
  (l : List (List UInt8)) (sep : List UInt8) (hN : l.length ≤ 140737488355328) (hlen : (Lib.join l sep).length ≤ 140737488355328) :
  Pure P F [.one (.sl 1 (l.map encS)), .s sep] (.one (.s (Lib.join l sep))) := by
 refine ⟨hfn, fun w vs _ hargs => ?_⟩
 obtain ⟨hl, hin⟩ := hargs
 match vs, hl with
 | [v0, v1], _ =>
 have d0 := hin 0 (by simp)
 have d1 := hin 1 (by simp)
 have e1 : v1 = .string ⟨⟨sep⟩⟩ := by
  have d1 : RV (· < w.heap.size) (hp w) noG (fun _ => none) (fun _ => False) (.d (.v (.string ⟨⟨sep⟩⟩))) v1 := d1
  exact (rv_v d1).1
 subst e1
 have d0 : RV (· < w.heap.size) (hp w) noG (fun _ => none) (fun _ => False) (.d (.sl 1 (l.map encS))) v0 := d0
 have fin : ∀ {v : Value} {w' : World}, v = .string ⟨⟨Lib.join l sep⟩⟩ → Below w.heap.size w w' →
   Below w.heap.size w w' ∧ ∃ fp, OwnV (hp w') (.one (.s (Lib.join l sep))) v fp ∧ fp.Nodup ∧ ∀ b ∈ fp, w.heap.size ≤ b ∧ b < w'.heap.size := by
  intro v w' hv hb
  subst hv
  exact ⟨hb, [], .one _ _ _ (.v _ rfl), by simp, by simp⟩
 cases d0 with
 | d _ _ hd =>
  by_cases hne : l = []
  ·subst hne
   obtain ⟨oa, cap, rfl⟩ := data_sl hd
   refine Calls.mono (h0 oa cap ⟨⟨sep⟩⟩ w) ?_
   rintro e w' ⟨rfl, rfl⟩
   exact fin rfl (Below.refl _ _)
  ·obtain ⟨b, off, cap, cs, e, fr, hS, hb, hk, hrow, hcap, hfit, hdat, rfl⟩ := data_ne hd (by simpa using hne)
   have h2 := h1 b off cap (l.map fun s => (⟨⟨s⟩⟩ : ByteArray)) ⟨⟨sep⟩⟩ w (fun j x hx => ?_) hS (by simpa using hN) (by simpa using hcap) (by rw [bytes_back]; exact hlen)
   ·rw [bytes_back, List.length_map] at h2
    rw [List.length_map]
    refine Calls.mono h2 ?_
    rintro e w' ⟨rfl, hb⟩
    exact fin rfl hb
   ·rw [List.getElem?_map] at hx
    cases hc : l[j]? with
    | none => rw [hc] at hx; simp at hx
    | some s =>
     rw [hc] at hx
     simp only [Option.map_some, Option.some.injEq] at hx
     subst hx
     have hj : j < l.length := (List.getElem?_eq_some_iff.1 hc).1
     have := hdat j (by simp; omega)
     rw [flat_strs, hc] at this
     simp only at this
     have ev : cs.getD (off + j) undef = .string ⟨⟨s⟩⟩ := by
      generalize cs.getD (off + j) undef = v at this
      cases this; rfl
     rw [cell_at hb (by simp only [List.length_map] at hfit; omega), ev]

theorem join_snoc (l : List (List UInt8)) (x sep : List UInt8) (h : l ≠ []) : Lib.join (l ++ [x]) sep = Lib.join l sep ++ sep ++ x := by
 induction l with
 | nil => exact absurd rfl h
 | cons y l ih =>
  cases l with
  | nil => simp [Lib.join, List.intercalate]
  | cons z l =>
   have := ih (by simp)
   simp only [Lib.join, List.intercalate] at this ⊢
   simp only [List.cons_append, List.intersperse_cons_cons, List.flatten_cons, this, List.append_assoc] at this ⊢
   simp [this]

theorem join_le (l : List (List UInt8)) (sep : List UInt8) : (Lib.join l sep).length ≤ sep.length * l.length + (l.map List.length).sum := by
 induction l with
 | nil => simp [Lib.join, List.intercalate]
 | cons y l ih =>
  cases l with
  | nil => simp [Lib.join, List.intercalate]
  | cons z l =>
   simp only [Lib.join, List.intercalate, List.intersperse_cons_cons, List.flatten_cons, List.length_append, List.length_cons, List.map_cons, List.sum_cons, Nat.mul_succ] at ih ⊢
   omega

end Go.Av
