/- ABSTRACT VALUES: what a walk is written with. -/
import Derived.Test.YtniibgdokfnomaaGreatAvTy
import Derived.KernelRfl
import Derived.IntWalk
namespace Go.Av
open Go Go.Gx
set_option linter.unusedVariables false

theorem drawGo_nil {C:Contract} {T:Tab} {ops:List Oper} {i:Nat} {recs:List Rec} {K:St→Prop} {s:St}
  (h:match s with | ⟨env,mem,next⟩=>match next+stride * i with | 0=>K ⟨env,mem,0⟩ | n+1=>K ⟨env,mem,n+1⟩):drawGo C T ops i [] recs K s:=by
 rw [drawGo];exact h
theorem drawGo_step {C:Contract} {T:Tab} {ops:List Oper} {i:Nat} {o:Oper} {r:List Oper} {recs:List Rec} {K:St→Prop} {s:St}
  (h:match befOf recs i o.after.toList with
   | some bef=>forceN bef fun bef=>forceN (guardTmp ops o++tmpsL (opnds o.op)) fun tm=>
    guardA ops s o
     (fun s=>forceN (readsOf o s) fun rd=>stepX C T o (evA T s) (restr rd (find s.mem)) (s.next+stride * i) fun v u=>forceN (domU u) fun dom=>
      match okRec bef tm o.dst rd dom recs with
      | true=>s.putD o.dst v u (drawGo C T ops (i+1) r (⟨i,bef,tm,o.dst,rd,dom⟩::recs) K)
      | false=>False)
     (fun s=>match okRec bef tm o.dst [] [] recs with
      | true=>s.putD o.dst (.tup []) [] (drawGo C T ops (i+1) r (⟨i,bef,tm,o.dst,[],[]⟩::recs) K)
      | false=>False)
   | none=>False):drawGo C T ops i (o::r) recs K s:=by
 rw [drawGo];exact h


def addR (o' o:Nat) (r:List (Nat×Nat)):List (Nat×Nat):=match rget r o' with | some _=>r | none=>(o',o)::r
def autoV:AV→AV→List (Nat×Nat)→List (Nat×Nat)
 | .sl o,.sl o',r=>addR o' o r
 | .ptr o _ _,.ptr o' _ _,r=>addR o' o r
 | .sub o _ _,.sub o' _ _,r=>addR o' o r
 | _,_,r=>r
def autoL:List AV→List AV→List (Nat×Nat)→List (Nat×Nat)
 | a::as,b::bs,r=>autoL as bs (autoV a b r)
 | _,_,r=>r
def autoE (env:List (Nat×AV)):List (Nat×AV)→List (Nat×Nat)→List (Nat×Nat)
 | [],r=>r
 | (t,.agg bs)::l,r=>match look env t with | .agg as=>autoE env l (autoL as bs r) | _=>autoE env l r
 | (t,v)::l,r=>autoE env l (autoV (look env t) v r)
def pinAt:List (Nat×Option AO)→Option Nat
 | []=>none
 | (o,some (.pin _))::_=>some o
 | _::r=>pinAt r
def autoM (m:List (Nat×Option AO)):List (Nat×Option AO)→List (Nat×Nat)→List (Nat×Nat)
 | [],r=>r
 | (o',some (.box bs))::l,r=>match rget r o' with
  | some o=>match find m o with | some (.box as)=>autoM m l (autoL as bs r) | _=>autoM m l r
  | none=>autoM m l r
 | (o',some (.pin bs))::l,r=>match pinAt m with
  | some o=>match find m o with | some (.pin as)=>autoM m l (autoL as bs (addR o' o r)) | _=>autoM m l r
  | none=>autoM m l r
 | _::l,r=>autoM m l r
/-- which object became which, read off the slots -/
def autoR (s s':St):List (Nat×Nat):=autoM s.mem s'.mem (autoE s.env s'.env [])
theorem weak_auto {s s':St} (h:weakP (autoR s s') s s'):Weak s s':=weak_of _ h

theorem wrap_in {n:Int} (h1:-9223372036854775808≤n) (h2:n≤9223372036854775807):IntKind.i64.wrap n=n:=Go.IntWalk.i64_in n ⟨h1,h2⟩

theorem D_i {a b:Int} (h:a=b):D.i a=D.i b:=by rw [h]
theorem D_i' {a b:Int} (h:a=b):D.v (.int .i64 a)=D.i b:=by rw [h]
theorem D_sl {k:Nat} {a b:List (List D)} (h:a=b):D.sl k a=D.sl k b:=by rw [h]

/-- the rows of a copy, after i of them -/
def copied {α:Type} (e:α→List D) (z:List D) (l:List α) (i:Nat):List (List D):=(l.take i).map e++List.replicate (l.length - i) z
theorem copied_zero {α:Type} (e:α→List D) (z:List D) (l:List α):copied e z l 0=List.replicate l.length z:=by simp [copied]
theorem copied_all {α:Type} (e:α→List D) (z:List D) (l:List α) {i:Nat} (h:l.length≤i):copied e z l i=l.map e:=by
 unfold copied
 rw [List.take_of_length_le h,Nat.sub_eq_zero_of_le h];simp
theorem copied_length {α:Type} (e:α→List D) (z:List D) (l:List α) {i:Nat} (h:i≤l.length):(copied e z l i).length=l.length:=by simp [copied];omega
theorem copied_set {α:Type} (e:α→List D) (z:List D) (l:List α) {i:Nat} {x:α} (hx:l[i]?=some x) {r:List D} (hr:r=e x):(copied e z l i).set i r=copied e z l (i+1):=by
 subst hr
 have hi:i<l.length:=(List.getElem?_eq_some_iff.1 hx).1
 unfold copied
 have e1:l.length - i=(l.length - (i+1))+1:=by omega
 rw [e1,List.replicate_succ,List.set_append_right _ _ (by simp;omega)]
 have e2:i - ((l.take i).map e).length=0:=by simp;omega
 rw [e2,List.set_cons_zero,List.take_add_one,hx]
 simp
theorem copied_get {α:Type} (e:α→List D) (z:List D) (l:List α) {i:Nat} (hi:i<l.length):(copied e z l i)[i]?=some z:=by
 unfold copied
 rw [List.getElem?_append_right (by simp;omega),List.getElem?_replicate]
 simp;omega

theorem map_get {α:Type} {e:α→List D} {l:List α} {i:Nat} {row:List D} (h:(l.map e)[i]?=some row):∃x,l[i]?=some x∧row=e x:=by
 rw [List.getElem?_map] at h
 cases hc:l[i]? with
 | none=>rw [hc] at h;simp at h
 | some x=>rw [hc] at h;simp at h;exact ⟨x,rfl,h.symm⟩

/-! ### The laws' own helpers: copies, comparisons, sizes -/

def szF (n:Nat) (left:Int):Int:=if (n:Int)≤left then left - n else -1
theorem szF_lt {n:Nat} {left:Int} (h:szF n left<0) (h0:0≤left):left<n:=by unfold szF at h;split at h <;> omega
theorem szF_ge {n:Nat} {left:Int} (h:¬ szF n left<0):szF n left=left - n∧(n:Int)≤left:=by unfold szF at h ⊢;split at h <;> simp_all
theorem szF_no {n:Nat} {left:Int} (h:left<n):szF n left=-1:=by unfold szF;rw [if_neg (by omega)]
theorem szF_yes {n:Nat} {left:Int} (h:(n:Int)≤left):szF n left=left - n:=by unfold szF;rw [if_pos h]
theorem res_i {a b:Int} (h:a=b):DV.one (D.v (.int .i64 a))=DV.one (D.i b):=by rw [h]
theorem neg_of {b:Int} (h:b=-1):DV.one (D.v (.int .i64 (-1)))=DV.one (D.i b):=by rw [h]

def pre {α:Type} (f:α→Nat) (l:List α) (i:Nat):Nat:=((l.take i).map f).sum
theorem pre_zero {α:Type} (f:α→Nat) (l:List α):pre f l 0=0:=by simp [pre]
theorem pre_succ {α:Type} (f:α→Nat) (l:List α) {i:Nat} {x:α} (h:l[i]?=some x):pre f l (i+1)=pre f l i+f x:=by
 unfold pre;rw [List.take_add_one,h];simp
theorem pre_le {α:Type} (f:α→Nat) (l:List α) (i:Nat):pre f l i≤(l.map f).sum:=by
 unfold pre
 have e:(l.map f).sum=((l.take i).map f).sum+((l.drop i).map f).sum:=by rw [← List.sum_append,← List.map_append,List.take_append_drop]
 omega
theorem pre_all {α:Type} (f:α→Nat) (l:List α) {i:Nat} (h:l.length≤i):pre f l i=(l.map f).sum:=by
 unfold pre;rw [List.take_of_length_le h]
theorem mem_sum {α:Type} (f:α→Nat) {l:List α} {x:α} (h:x∈l):f x≤(l.map f).sum:=by
 induction l with
 | nil=>simp at h
 | cons y l ih=>
  rcases List.mem_cons.1 h with rfl | h
  ·simp
  ·have:=ih h;simp only [List.map_cons,List.sum_cons];omega

theorem sum_le1 {α:Type} {f:α→Nat} (hf:∀x,f x≤1):∀(l:List α),(l.map f).sum≤l.length
 | []=>by simp
 | y::m=>by
  have:=sum_le1 hf m
  have:=hf y
  simp only [List.map_cons,List.sum_cons,List.length_cons];omega
theorem pre_le1 {α:Type} {f:α→Nat} (hf:∀x,f x≤1) (l:List α) (i:Nat):pre f l i≤l.length:=by
 have h1:=pre_le f l i
 have h2:=sum_le1 hf l
 omega

/-! ### A list built by appending -/
theorem made_succ {α:Type} (e:α→List D) {l:List α} {i:Nat} {x:α} (hx:l[i]?=some x) {r:List D} (hr:r=e x):(l.take i).map e++[r]=(l.take (i+1)).map e:=by
 subst hr;rw [List.take_add_one,hx];simp
theorem made_all {α:Type} (e:α→List D) {l:List α} {i:Nat} (h:l.length≤i):(l.take i).map e=l.map e:=by rw [List.take_of_length_le h]

end Go.Av
