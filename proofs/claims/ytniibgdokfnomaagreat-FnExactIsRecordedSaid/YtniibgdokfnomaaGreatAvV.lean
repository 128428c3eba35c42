/- ABSTRACT VALUES: a region drawn in any order. -/
import Derived.Test.YtniibgdokfnomaaGreatAvU
namespace Go.Av
open Go Go.RowKit
set_option linter.unusedSimpArgs false
set_option linter.unusedVariables false

structure Item where
 r:Rec
 v:AV
 u:Ups

def lookT (base:List (Nat×AV)):List Item→Nat→AV
 | [],t=>look base t
 | it::l,t=>if it.r.dst=some t then it.v else lookT base l t

def findT (base:List (Nat×Option AO)):List Item→Nat→Option AO
 | [],o=>find base o
 | it::l,o=>ovr it.u (findT base l) o

/-- a set of operations that holds what must go before -/
def Down (ops:Array Oper) (D:Nat→Prop):Prop:=∀k o,ops[k]?=some o→D k→∀e∈o.after,Region.binds .any e=true→D e.on

def Apart (k:Rec) (it:Rec):Prop:=
 (∀t,it.dst=some t→t∉k.tm)∧(∀t,k.dst=some t→t∉it.tm)∧(∀t,k.dst=some t→it.dst≠some t)∧(∀x∈it.dom,x∉k.rd)∧(∀x∈it.rd,x∉k.dom)∧(∀x∈it.dom,x∉k.dom)

theorem memN_iff {x:Nat}:∀{l:List Nat},memN x l=true↔x∈l
 | []=>by simp [memN]
 | y::r=>by
  by_cases h:y=x
  ·subst h;simp [memN]
  ·simp only [memN,beq_ne h,List.mem_cons,memN_iff]
   constructor
   ·exact .inr
   ·rintro (e | e);exact absurd e.symm h;exact e

theorem interN_false:∀{a b:List Nat},interN a b=false→∀x∈a,x∉b
 | [],_,_,x,hx=>by simp at hx
 | y::r,b,h,x,hx=>by
  simp only [interN] at h
  split at h
  ·simp at h
  ·rename_i e
   rcases List.mem_cons.1 hx with rfl | hx
   ·intro hb;rw [memN_iff.2 hb] at e;simp at e
   ·exact interN_false h x hx

theorem memO_false {d:Option Nat} {l:List Nat} (h:memO d l=false):∀t,d=some t→t∉l:=by
 intro t ht hl;subst ht;simp only [memO,memN_iff.2 hl] at h;simp at h
theorem sameO_false {d e:Option Nat} (h:sameO d e=false):∀t,d=some t→e≠some t:=by
 intro t ht he;subst ht;subst he;simp [sameO] at h

theorem okRec_spec {bef tm:List Nat} {dst:Option Nat} {rd dom:List Nat} {i:Nat}:∀{recs:List Rec},okRec bef tm dst rd dom recs=true→∀j∈recs,j.i∈bef∨Apart ⟨i,bef,tm,dst,rd,dom⟩ j
 | [],_,j,hj=>by simp at hj
 | r::rs,h,j,hj=>by
  simp only [okRec] at h
  split at h
  ·rename_i e
   rcases List.mem_cons.1 hj with rfl | hj
   ·exact .inl (memN_iff.1 e)
   ·exact okRec_spec h j hj
  ·split at h
   ·rename_i e1 e2 e3 e4 e5 e6
    rcases List.mem_cons.1 hj with rfl | hj
    ·exact .inr ⟨memO_false e1,memO_false e2,sameO_false e3,interN_false e4,interN_false e5,interN_false e6⟩
    ·exact okRec_spec h j hj
   ·simp at h

theorem befAt_spec {k j:Nat}:∀{recs:List Rec},j∈befAt k recs→∃r∈recs,r.i=k∧j∈r.bef
 | [],h=>by simp [befAt] at h
 | r::rs,h=>by
  simp only [befAt] at h
  split at h
  ·rename_i e;exact ⟨r,by simp,Nat.eq_of_beq_eq_true e,h⟩
  ·obtain ⟨r',h1,h2,h3⟩:=befAt_spec h
   exact ⟨r',List.mem_cons_of_mem _ h1,h2,h3⟩

theorem befOf_spec {recs:List Rec} {i:Nat}:∀{es:List Edge} {bef:List Nat},befOf recs i es=some bef→
  (∀e∈es,Region.binds .any e=true→e.on<i)∧∀j∈bef,∃e∈es,Region.binds .any e=true∧(j=e.on∨∃r∈recs,r.i=e.on∧j∈r.bef)
 | [],bef,h=>by simp [befOf] at h;subst h;simp
 | e::r,bef,h=>by
  simp only [befOf] at h
  split at h
  ·rename_i hb
   split at h
   ·rename_i l hlt hl
    simp only [Option.some.injEq] at h
    simp only [Nat.blt_eq] at hlt
    obtain ⟨h1,h2⟩:=befOf_spec hl
    refine ⟨fun e' he' hb'=>?_,fun j hj=>?_⟩
    ·rcases List.mem_cons.1 he' with rfl | he'
     ·exact hlt
     ·exact h1 e' he' hb'
    ·subst h
     rcases List.mem_cons.1 hj with rfl | hj
     ·exact ⟨e,by simp,hb,.inl rfl⟩
     ·rcases List.mem_append.1 hj with hj | hj
      ·exact ⟨e,by simp,hb,.inr (befAt_spec hj)⟩
      ·obtain ⟨e',p1,p2,p3⟩:=h2 j hj
       exact ⟨e',List.mem_cons_of_mem _ p1,p2,p3⟩
   ·simp at h
  ·rename_i hb
   obtain ⟨h1,h2⟩:=befOf_spec h
   refine ⟨fun e' he' hb'=>?_,fun j hj=>?_⟩
   ·rcases List.mem_cons.1 he' with rfl | he'
    ·rw [hb] at hb';simp at hb'
    ·exact h1 e' he' hb'
   ·obtain ⟨e',p1,p2,p3⟩:=h2 j hj
    exact ⟨e',List.mem_cons_of_mem _ p1,p2,p3⟩

/-- what the guard says, told of a lookup -/
def GuardP (ops:List Oper) (lk:Nat→AV) (o:Oper) (b:Bool):Prop:=
 match o.guard with
 | none=>b=true
 | some (j,want)=>∃oj t,ops[j]?=some oj∧oj.dst=some t∧((∃c,lk t=.d (.v (.bool c))∧b=(c == want))∨(lk t=.tup []∧b=false))

theorem GuardP.congr {ops:List Oper} {lk lk':Nat→AV} {o:Oper} {b:Bool} (h:GuardP ops lk o b) (he:∀t∈guardTmp ops o,lk' t=lk t):GuardP ops lk' o b:=by
 unfold GuardP at h ⊢
 unfold guardTmp at he
 split at h
 ·rename_i e;exact h
 ·rename_i j want e
  obtain ⟨oj,t,h1,h2,h3⟩:=h
  simp only [e,h1,h2] at he
  exact ⟨oj,t,h1,h2,by rw [he t (by simp)];exact h3⟩

theorem guardA_spec {ops:List Oper} {s:St} {o:Oper} {yes no:St→Prop} (h:guardA ops s o yes no):
  ∃s',(∀t,look s'.env t=look s.env t)∧s'.mem=s.mem∧s'.next=s.next∧((GuardP ops (look s.env) o true∧yes s')∨(GuardP ops (look s.env) o false∧no s')):=by
 unfold guardA at h
 split at h
 ·rename_i e;exact ⟨s,fun _=>rfl,rfl,rfl,.inl ⟨by unfold GuardP;rw [e],h⟩⟩
 ·rename_i j want e
  split at h
  ·rename_i oj h1
   split at h
   ·rename_i t h2
    obtain ⟨env,mem,next⟩:=s
    simp only at h ⊢
    split at h
    ·rename_i b hl
     have same:∀b',b=b'→∀u,look ((t,.d (.v (.bool b')))::env) u=look env u:=by
      intro b' hb u;subst hb
      rw [look_cons];split
      ·rename_i e;subst e;exact hl.symm
      ·rfl
     have gp:∀c,b=c→∀r,r=(c == want)→GuardP ops (look env) o r:=by
      intro c hc r hr;subst hc
      unfold GuardP;rw [e];exact ⟨oj,t,h1,h2,.inl ⟨_,hl,hr⟩⟩
     unfold br at h
     cases b <;> cases want <;> simp only at h
     ·exact ⟨_,same _ rfl,rfl,rfl,.inl ⟨gp _ rfl _ rfl,h⟩⟩
     ·exact ⟨_,same _ rfl,rfl,rfl,.inr ⟨gp _ rfl _ rfl,h⟩⟩
     ·exact ⟨_,same _ rfl,rfl,rfl,.inr ⟨gp _ rfl _ rfl,h⟩⟩
     ·exact ⟨_,same _ rfl,rfl,rfl,.inl ⟨gp _ rfl _ rfl,h⟩⟩
    ·rename_i hl
     exact ⟨_,fun _=>rfl,rfl,rfl,.inr ⟨by unfold GuardP;rw [e];exact ⟨oj,t,h1,h2,.inr ⟨hl,rfl⟩⟩,h⟩⟩
    ·exact h.elim
   ·exact h.elim
  ·exact h.elim

section
variable {P:Program} {T:Tab} {C:Contract} {B:Fr} {N:Nat} {L:Nat→Prop} {w₀ w:World} {s:St} {a:Act} {S:Nat→Prop} {g:Nat→OG} {id:Nat} {K:St→Prop} {o:Oper} {Q:Exit→Act→World→Prop} {X:List Nat} {ops:Array Oper}

theorem GuardP.wanted (R:Rel B N w₀ L s a w S g X) {b:Bool} (h:GuardP ops.toList (look s.env) o b):Region.wanted o (yielded ops a.tmps)=b:=by
 unfold GuardP at h
 split at h
 ·rename_i hg;subst h;simp [Region.wanted,hg]
 ·rename_i j want hg
  obtain ⟨oj,t,hj,ht,h⟩:=h
  have hj:ops[j]?=some oj:=by rw [← Array.getElem?_toList];exact hj
  have e:=R.env t
  rcases h with ⟨c,hl,hb⟩ | ⟨hl,hb⟩
  ·rw [hl] at e
   have e:=(rv_v e).1
   have hy:yielded ops a.tmps j=some c:=by
    simp only [Array.getD_eq_getD_getElem?] at e
    unfold yielded
    simp only [hj,Option.bind_some,ht]
    cases hc:a.tmps[t]? with
    | none=>rw [hc] at e;simp [undef] at e
    | some v=>rw [hc] at e;simp only [Option.getD_some] at e;subst e;rfl
   subst hb
   cases c <;> cases want <;> simp [Region.wanted,hg,hy]
  ·rw [hl] at e
   have e:a.tmps.getD t undef=undef:=by
    generalize a.tmps.getD t undef=v at e
    cases e with
    | tup cs vs hl hin=>
     have:vs=[]:=List.eq_nil_of_length_eq_zero (by simpa using hl)
     subst this;rfl
   have hy:yielded ops a.tmps j=none:=by
    simp only [Array.getD_eq_getD_getElem?] at e
    unfold yielded
    simp only [hj,Option.bind_some,ht]
    cases hc:a.tmps[t]? with
    | none=>rfl
    | some v=>rw [hc] at e;simp only [Option.getD_some] at e;subst e;rfl
   subst hb
   simp [Region.wanted,hg,hy]

/-- what is known of an operation, whenever it comes -/
structure ItemOk (C:Contract) (T:Tab) (ops:Array Oper) (base:St) (it:Item) (earlier:List Item):Prop where
 ex:∃o,ops[it.r.i]?=some o∧it.r.dst=o.dst∧(∀e∈o.after,Region.binds .any e=true→e.on<it.r.i)∧
  (∀D:Nat→Prop,Down ops D→(∀e∈o.after,Region.binds .any e=true→D e.on)→∀j∈it.r.bef,D j)∧(∀j∈earlier,j.r.i∈it.r.bef∨Apart it.r j.r)∧it.r.dom=domU it.u∧
  ((∀t∈guardTmp ops.toList o,t∈it.r.tm)∧
   ((GuardP ops.toList (lookT base.env earlier) o true∧∀s':St,(∀t∈it.r.tm,look s'.env t=lookT base.env earlier t)→(∀x∈it.r.rd,find s'.mem x=findT base.mem earlier x)→
    ∀K':AV→Ups→Prop,K' it.v it.u→stepX C T o (evA T s') (find s'.mem) (base.next+stride * it.r.i) K')∨
   (GuardP ops.toList (lookT base.env earlier) o false∧it.v=.tup []∧it.u=[])))

inductive Good (C:Contract) (T:Tab) (ops:Array Oper) (base:St):List Item→Prop
 | nil:Good C T ops base []
 | cons (it:Item) (l:List Item) (h:Good C T ops base l) (hi:it.r.i=l.length) (ok:ItemOk C T ops base it l):Good C T ops base (it::l)

theorem Good.closed {base:St} {l:List Item} (h:Good C T ops base l):∀it∈l,∀D:Nat→Prop,Down ops D→D it.r.i→∀j∈it.r.bef,D j:=by
 induction h with
 | nil=>intro it h;simp at h
 | cons it l h hi ok ih=>
  intro it' hit D hD hi' j hj
  rcases List.mem_cons.1 hit with rfl | hit
  ·obtain ⟨o,h1,_,_,h4,_⟩:=ok.ex
   exact h4 D hD (fun e he hb=>hD _ o h1 hi' e he hb) j hj
  ·exact ih it' hit D hD hi' j hj

theorem restr_le {rd:List Nat} {m m':Nat→Option AO} (h:∀x∈rd,m' x=m x):Le (restr rd m) m':=by
 intro o a ha
 unfold restr at ha
 split at ha
 ·rename_i e;rw [h o (memN_iff.1 e)];exact ha
 ·simp at ha

/-- the walk in text order tells of each operation -/
theorem drawGo_items {base:St}:∀(l:List Oper) (i:Nat) (recs:List Rec) (items:List Item) (s:St),(∀k,ops[i+k]?=l[k]?)→recs=items.map Item.r→items.length=i→Good C T ops base items→
  (∀t,look s.env t=lookT base.env items t)→(∀x,find s.mem x=findT base.mem items x)→s.next=base.next→drawGo C T ops.toList i l recs K s→
  ∃items' s',Good C T ops base items'∧items'.length=i+l.length∧(∀t,look s'.env t=lookT base.env items' t)∧(∀x,find s'.mem x=findT base.mem items' x)∧s'.next=base.next+stride * (i+l.length)∧K s'
 | [],i,recs,items,s,hl,hr,hlen,hg,h1,h2,hn,h=>by
  obtain ⟨env,mem,next⟩:=s
  simp only at hn;subst hn
  refine ⟨items,⟨env,mem,base.next+stride * i⟩,hg,by simpa using hlen,h1,h2,by simp,?_⟩
  simp only [drawGo] at h
  split at h
  ·rename_i e;rw [e];exact h
  ·rename_i e;rw [e];exact h
 | o::l,i,recs,items,s,hl,hr,hlen,hg,h1,h2,hn,h=>by
  simp only [drawGo,forceN_eq] at h
  have ho:ops[i]?=some o:=by simpa using hl 0
  have hl':∀k,ops[i+1+k]?=l[k]?:=fun k=>by have:=hl (k+1);rw [show i+1+k=i+(k+1) by omega,this];simp
  split at h
  ·rename_i bef hb
   obtain ⟨b1,b2⟩:=befOf_spec hb
   have topo:∀e∈o.after,Region.binds .any e=true→e.on<i:=fun e he=>b1 e (by simpa using he)
   have clo:∀D:Nat→Prop,Down ops D→(∀e∈o.after,Region.binds .any e=true→D e.on)→∀j∈bef,D j:=by
    intro D hD hd j hj
    obtain ⟨e,p1,p2,p3⟩:=b2 j hj
    have he:=hd e (by simpa using p1) p2
    rcases p3 with rfl | ⟨r,q1,q2,q3⟩
    ·exact he
    ·rw [hr] at q1
     obtain ⟨it,hit,rfl⟩:=List.mem_map.1 q1
     exact hg.closed it hit D hD (by rw [q2];exact he) j q3
   obtain ⟨s1,l1,m1,n1,hcase⟩:=guardA_spec h
   have gsub:∀t∈guardTmp ops.toList o,t∈guardTmp ops.toList o++tmpsL (opnds o.op):=fun t ht=>List.mem_append_left _ ht
   have lkeq:look s.env=lookT base.env items:=funext h1
   rcases hcase with ⟨gp,hy⟩ | ⟨gp,hno⟩
   ·rw [lkeq] at gp
    have hle:Le (restr (readsOf o s1) (find s1.mem)) (find s1.mem):=restr_le fun _ _=>rfl
    obtain ⟨v,u,hk,hdet⟩:=stepX_det (m':=restr (readsOf o s1) (find s1.mem)) (fun _ _ h=>h) hy
    split at hk
    ·rename_i hok
     rw [putD_eq] at hk
     let it:Item:=⟨⟨i,bef,guardTmp ops.toList o++tmpsL (opnds o.op),o.dst,readsOf o s1,domU u⟩,v,u⟩
     have ok:ItemOk C T ops base it items:=by
      refine ⟨o,ho,rfl,topo,clo,fun j hj=>?_,rfl,gsub,.inl ⟨gp,fun s' e1 e2 K' hK'=>?_⟩⟩
      ·exact okRec_spec hok j.r (by rw [hr];exact List.mem_map.2 ⟨j,hj,rfl⟩)
      ·have q:=hdet K' hK'
       rw [n1,hn] at q
       have q2:stepX C T o (evA T s1) (find s'.mem) (base.next+stride * i) K':=by
        obtain ⟨v',u',hk',hd'⟩:=stepX_det (m':=find s'.mem) (restr_le fun x hx=>by rw [e2 x hx,m1,h2]) q
        exact hd' K' hk'
       refine stepX_congr (evA_congr fun t ht=>?_) q2
       rw [l1,h1,e1 t (List.mem_append_right _ ht)]
     obtain ⟨items',s',g1,g2,g3,g4,g5,g6⟩:=drawGo_items (base:=base) l (i+1) _ (it::items) _ hl' (by rw [hr];rfl) (by simp [hlen]) (.cons it items hg hlen.symm ok) (fun t=>by
       show look (match o.dst with | some t=>(t,v)::s1.env | none=>s1.env) t=_
       simp only [lookT,it]
       cases hd:o.dst with
       | none=>simp only [reduceCtorEq,if_false];rw [l1,h1]
       | some d=>
        rw [look_cons]
        by_cases e:d=t
        ·subst e;simp
        ·rw [if_neg e,if_neg (by simpa using e),l1,h1]) (fun x=>by
       show find (u++s1.mem) x=_
       rw [find_append,m1]
       simp only [findT,it]
       congr 1;exact funext h2) (by rw [n1,hn]) hk
     exact ⟨items',s',g1,by rw [g2];simp only [List.length_cons];omega,g3,g4,by rw [g5];congr 2;simp only [List.length_cons];omega,g6⟩
    ·exact hk.elim
   ·rw [lkeq] at gp
    split at hno
    ·rename_i hok
     rw [putD_eq] at hno
     let it:Item:=⟨⟨i,bef,guardTmp ops.toList o++tmpsL (opnds o.op),o.dst,[],[]⟩,.tup [],[]⟩
     have ok:ItemOk C T ops base it items:=by
      refine ⟨o,ho,rfl,topo,clo,fun j hj=>?_,rfl,gsub,.inr ⟨gp,rfl,rfl⟩⟩
      exact okRec_spec hok j.r (by rw [hr];exact List.mem_map.2 ⟨j,hj,rfl⟩)
     obtain ⟨items',s',g1,g2,g3,g4,g5,g6⟩:=drawGo_items (base:=base) l (i+1) _ (it::items) _ hl' (by rw [hr];rfl) (by simp [hlen]) (.cons it items hg hlen.symm ok) (fun t=>by
       show look (match o.dst with | some t=>(t,AV.tup [])::s1.env | none=>s1.env) t=_
       simp only [lookT,it]
       cases hd:o.dst with
       | none=>simp only [reduceCtorEq,if_false];rw [l1,h1]
       | some d=>
        rw [look_cons]
        by_cases e:d=t
        ·subst e;simp
        ·rw [if_neg e,if_neg (by simpa using e),l1,h1]) (fun x=>by
       show find ([]++s1.mem) x=_
       rw [find_append,m1]
       simp only [findT,it]
       congr 1;exact funext h2) (by rw [n1,hn]) hno
     exact ⟨items',s',g1,by rw [g2];simp only [List.length_cons];omega,g3,g4,by rw [g5];congr 2;simp only [List.length_cons];omega,g6⟩
    ·exact hno.elim
  ·exact h.elim

end

end Go.Av
