/- ABSTRACT VALUES: a region drawn in any order (second half). -/
import Derived.Test.YtniibgdokfnomaaGreatAvV
namespace Go.Av
open Go Go.RowKit
set_option linter.unusedSimpArgs false
set_option linter.unusedVariables false

theorem ovr_none {u:Ups} {m:Nat→Option AO} {x:Nat} (h:x∉domU u):ovr u m x=m x:=by
 induction u with
 | nil=>rfl
 | cons p r ih=>
  obtain ⟨o,a⟩:=p
  simp only [domU,List.mem_cons,not_or] at h
  simp only [ovr,beq_ne (fun e=>h.1 e.symm),ih h.2]

theorem ovr_some {u:Ups} {m m':Nat→Option AO} {x:Nat} (h:x∈domU u):ovr u m x=ovr u m' x:=by
 induction u with
 | nil=>simp [domU] at h
 | cons p r ih=>
  obtain ⟨o,a⟩:=p
  simp only [ovr]
  split
  ·rfl
  ·rename_i e
   simp only [domU,List.mem_cons] at h
   rcases h with rfl | h
   ·simp at e
   ·exact ih h

theorem ovr_swap {u u':Ups} {m:Nat→Option AO} (h:∀x∈domU u,x∉domU u'):ovr u (ovr u' m)=ovr u' (ovr u m):=by
 funext x
 by_cases hx:x∈domU u
 ·rw [ovr_none (h x hx)];exact ovr_some hx
 ·rw [ovr_none hx]
  by_cases hx':x∈domU u'
  ·exact ovr_some hx'
  ·rw [ovr_none hx',ovr_none hx',ovr_none hx]

theorem lookT_insert {base:List (Nat×AV)} {it:Item}:∀{later:List Item} (earlier:List Item),(∀k∈later,∀t,k.r.dst=some t→it.r.dst≠some t)→∀t,lookT base (later++it::earlier) t=if it.r.dst=some t then it.v else lookT base (later++earlier) t
 | [],earlier,_,t=>rfl
 | k::later,earlier,h,t=>by
  simp only [List.cons_append,lookT]
  have ih:=lookT_insert (base:=base) (it:=it) (later:=later) earlier (fun k hk=>h k (List.mem_cons_of_mem _ hk)) t
  split
  ·rename_i e
   rw [if_neg (h k (by simp) t e)]
  ·exact ih

theorem findT_insert {base:List (Nat×Option AO)} {it:Item}:∀{later:List Item} (earlier:List Item),(∀k∈later,∀x∈domU it.u,x∉domU k.u)→findT base (later++it::earlier)=ovr it.u (findT base (later++earlier))
 | [],earlier,_=>rfl
 | k::later,earlier,h=>by
  simp only [List.cons_append]
  have ih:=findT_insert (base:=base) (it:=it) (later:=later) earlier (fun k hk=>h k (List.mem_cons_of_mem _ hk))
  have e1:findT base (k::(later++it::earlier))=ovr k.u (findT base (later++it::earlier)):=rfl
  have e2:findT base (k::(later++earlier))=ovr k.u (findT base (later++earlier)):=rfl
  rw [e1,e2,ih]
  exact ovr_swap fun x hx hx'=>h k (by simp) x hx' hx

theorem lookT_skip {base:List (Nat×AV)} {t:Nat}:∀{later:List Item} (earlier:List Item),(∀k∈later,k.r.dst≠some t)→lookT base (later++earlier) t=lookT base earlier t
 | [],earlier,_=>rfl
 | k::later,earlier,h=>by
  simp only [List.cons_append,lookT]
  rw [if_neg (h k (by simp)),lookT_skip earlier fun k hk=>h k (List.mem_cons_of_mem _ hk)]

theorem findT_skip {base:List (Nat×Option AO)} {x:Nat}:∀{later:List Item} (earlier:List Item),(∀k∈later,x∉domU k.u)→findT base (later++earlier) x=findT base earlier x
 | [],earlier,_=>rfl
 | k::later,earlier,h=>by
  simp only [List.cons_append,findT]
  rw [ovr_none (h k (by simp)),findT_skip earlier fun k hk=>h k (List.mem_cons_of_mem _ hk)]

theorem lookT_filter {base:List (Nat×AV)} {t:Nat} {p:Item→Bool}:∀{l:List Item},(∀k∈l,k.r.dst=some t→p k=true)→lookT base (l.filter p) t=lookT base l t
 | [],_=>rfl
 | k::l,h=>by
  have ih:=lookT_filter (base:=base) (t:=t) (p:=p) (l:=l) fun k hk=>h k (List.mem_cons_of_mem _ hk)
  by_cases hp:p k=true
  ·rw [List.filter_cons_of_pos hp];simp only [lookT,ih]
  ·rw [List.filter_cons_of_neg hp,ih]
   simp only [lookT]
   rw [if_neg fun e=>hp (h k (by simp) e)]

theorem findT_filter {base:List (Nat×Option AO)} {x:Nat} {p:Item→Bool}:∀{l:List Item},(∀k∈l,x∈domU k.u→p k=true)→findT base (l.filter p) x=findT base l x
 | [],_=>rfl
 | k::l,h=>by
  have ih:=findT_filter (base:=base) (x:=x) (p:=p) (l:=l) fun k hk=>h k (List.mem_cons_of_mem _ hk)
  by_cases hp:p k=true
  ·rw [List.filter_cons_of_pos hp]
   simp only [findT]
   by_cases hx:x∈domU k.u
   ·exact ovr_some hx
   ·rw [ovr_none hx,ovr_none hx,ih]
  ·rw [List.filter_cons_of_neg hp,ih]
   simp only [findT]
   rw [ovr_none fun e=>hp (h k (by simp) e)]

theorem filter_lt {α:Type} {p p':α→Bool} (hi:∀x,p' x=true→p x=true):∀{l:List α} {x:α},x∈l→p x=true→p' x=false→(l.filter p').length<(l.filter p).length
 | [],x,h,_,_=>by simp at h
 | y::l,x,h,h1,h2=>by
  have le:∀l:List α,(l.filter p').length≤(l.filter p).length:=by
   intro l
   induction l with
   | nil=>simp
   | cons z l ih=>
    by_cases e:p' z=true
    ·rw [List.filter_cons_of_pos e,List.filter_cons_of_pos (hi z e)];simp [ih]
    ·rw [List.filter_cons_of_neg e]
     by_cases e':p z=true
     ·rw [List.filter_cons_of_pos e'];simp only [List.length_cons];omega
     ·rw [List.filter_cons_of_neg e'];exact ih
  rcases List.mem_cons.1 h with rfl | h
  ·rw [List.filter_cons_of_neg (by rw [h2];simp),List.filter_cons_of_pos h1]
   have:=le l;simp only [List.length_cons];omega
  ·have ih:=filter_lt hi h h1 h2
   by_cases e:p' y=true
   ·rw [List.filter_cons_of_pos e,List.filter_cons_of_pos (hi y e)];simp [ih]
   ·rw [List.filter_cons_of_neg e]
    by_cases e':p y=true
    ·rw [List.filter_cons_of_pos e'];simp only [List.length_cons];omega
    ·rw [List.filter_cons_of_neg e'];exact ih

section
variable {P:Program} {T:Tab} {C:Contract} {B:Fr} {N:Nat} {L:Nat→Prop} {w₀ w:World} {s:St} {a:Act} {S:Nat→Prop} {g:Nat→OG} {id:Nat} {K:St→Prop} {o:Oper} {Q:Exit→Act→World→Prop} {X:List Nat} {ops:Array Oper}

/-- the state is but its lookups -/
theorem Rel.congr (R:Rel B N w₀ L s a w S g X) {s':St} (h1:∀t,look s'.env t=look s.env t) (h2:∀x,find s'.mem x=find s.mem x):Rel B N w₀ L s' a w S g X:=by
 have e:find s'.mem=find s.mem:=funext h2
 exact { below:=R.below,hB:=R.hB,hH:=R.hH,inv:=R.inv,defers:=R.defers,size:=R.size,env:=fun t=>by rw [e,h1];exact R.env t,obj:=by rw [e];exact R.obj,new:=by rw [e];exact R.new,nodup:=by rw [e];exact R.nodup,bound:=by rw [e];exact R.bound,
         apart:=by rw [e];exact R.apart,still:=R.still,sub:=R.sub,xs:=by rw [e];exact R.xs }

theorem Good.at {base:St} {items:List Item} (h:Good C T ops base items):∀i,i<items.length→∃later it earlier,items=later++it::earlier∧earlier.length=i∧it.r.i=i∧ItemOk C T ops base it earlier∧
  (∀j∈earlier,j.r.i<i)∧(∀k∈later,i<k.r.i∧∃e,ItemOk C T ops base k e∧it∈e):=by
 induction h with
 | nil=>intro i hi;simp at hi
 | cons it l h hi ok ih=>
  have lt:∀{l:List Item},Good C T ops base l→∀j∈l,j.r.i<l.length:=by
   intro l h
   induction h with
   | nil=>intro j hj;simp at hj
   | cons it l h hi ok ih=>
    intro j hj
    rcases List.mem_cons.1 hj with rfl | hj
    ·simp [hi]
    ·have:=ih j hj;simp only [List.length_cons];omega
  intro i hlt
  by_cases e:i=l.length
  ·subst e
   exact ⟨[],it,l,rfl,rfl,hi,ok,lt h,by simp⟩
  ·obtain ⟨later,it',earlier,e1,e2,e3,e4,e5,e6⟩:=ih i (by simp at hlt;omega)
   refine ⟨it::later,it',earlier,by simp [e1],e2,e3,e4,e5,fun k hk=>?_⟩
   rcases List.mem_cons.1 hk with rfl | hk
   ·exact ⟨by simp at hlt;omega,l,ok,by rw [e1];simp⟩
   ·exact e6 k hk

def unlisted (ops:Array Oper) (listed:Array Bool):Nat:=((List.range ops.size).filter fun j=>!listed.getD j true).length

theorem getD_any {listed:Array Bool} {j:Nat} (h:j<listed.size) (d d':Bool):listed.getD j d=listed.getD j d':=by
 simp [h]

theorem getD_set_self {listed:Array Bool} {i:Nat} (h:i<listed.size) (d:Bool):(listed.setIfInBounds i true).getD i d=true:=by simp [h]

theorem drawAny (hT:TOk P T) (hP:B.I P) {base:St} {items:List Item} (hg:Good (Con P) T ops base items) (hlen:items.length=ops.size) (hd:∀o∈ops,dstOk N o=true)
  (hQ:∀{s:St} {a w S g L},Rel B N w₀ L s a w S g []→(∀t,look s.env t=lookT base.env items t)→(∀x,find s.mem x=findT base.mem items x)→(∀x,L x→x<base.next+stride * ops.size)→Q .normal a w):
  ∀(fuel:Nat) (listed:Array Bool) (s:St) (a:Act) (w:World) (S:Nat→Prop) (g:Nat→OG) (L:Nat→Prop),listed.size=ops.size→unlisted ops listed≤fuel→Down ops (fun j=>listed.getD j false=true)→
   Rel B N w₀ L s a w S g []→(∀t,look s.env t=lookT base.env (items.filter fun k=>listed.getD k.r.i false) t)→(∀x,find s.mem x=findT base.mem (items.filter fun k=>listed.getD k.r.i false) x)→
   (∀x,L x→x<base.next∨∃j,listed.getD j false=true∧base.next+stride * j≤x∧x<base.next+stride * j+stride)→wpAny P .any ops Q fuel listed a w:=by
 have fin:∀(listed:Array Bool) (s:St) (a:Act) (w:World) (S:Nat→Prop) (g:Nat→OG) (L:Nat→Prop),listed.size=ops.size→Region.ready .any ops listed=[]→
   Rel B N w₀ L s a w S g []→(∀t,look s.env t=lookT base.env (items.filter fun k=>listed.getD k.r.i false) t)→(∀x,find s.mem x=findT base.mem (items.filter fun k=>listed.getD k.r.i false) x)→
   (∀x,L x→x<base.next∨∃j,listed.getD j false=true∧base.next+stride * j≤x∧x<base.next+stride * j+stride)→Q .normal a w:=by
  intro listed s a w S g L hsz hr R h1 h2 hL
  have all:∀n,n<ops.size→listed.getD n false=true:=by
   intro n
   induction n using Nat.strongRecOn with
   | _ n ih=>
    intro hn
    cases hc:listed.getD n false with
    | true=>rfl
    | false=>
     exfalso
     obtain ⟨later,it,earlier,e1,e2,e3,e4,e5,e6⟩:=hg.at n (by omega)
     obtain ⟨o,p1,p2,p3,_⟩:=e4.ex
     rw [e3] at p1 p3
     have:n∈Region.ready .any ops listed:=by
      rw [mem_ready]
      exact ⟨by rw [getD_any (by omega) true false];exact hc,o,p1,fun e he hb=>ih e.on (p3 e he hb) (by have:=p3 e he hb;omega)⟩
     rw [hr] at this;simp at this
  have ef:(items.filter fun k=>listed.getD k.r.i false)=items:=by
   rw [List.filter_eq_self]
   intro k hk
   obtain ⟨later,e1⟩:∃l,l=items:=⟨_,rfl⟩
   have:k.r.i<items.length:=by
    obtain ⟨n,hn,rfl⟩:=List.mem_iff_getElem.1 hk
    have hgen:∀{l:List Item},Good (Con P) T ops base l→∀j∈l,j.r.i<l.length:=by
     intro l h
     induction h with
     | nil=>intro j hj;simp at hj
     | cons it l h hi ok ih=>
      intro j hj
      rcases List.mem_cons.1 hj with rfl | hj
      ·simp [hi]
      ·have:=ih j hj;simp only [List.length_cons];omega
    exact hgen hg _ hk
   exact all _ (by omega)
  rw [ef] at h1 h2
  refine hQ R h1 h2 fun x hx=>?_
  rcases hL x hx with h | ⟨j,hj,h3,h4⟩
  ·omega
  ·have hj':j<ops.size:=by
    rcases Nat.lt_or_ge j listed.size with h | h
    ·omega
    ·simp [Array.getElem?_eq_none h,Nat.not_lt.2 h] at hj
   have:stride * j+stride≤stride * ops.size:=by rw [← Nat.mul_succ];exact Nat.mul_le_mul_left _ hj'
   omega
 intro fuel
 induction fuel with
 | zero=>
  intro listed s a w S g L hsz hu hD R h1 h2 hL
  have hr:Region.ready .any ops listed=[]:=by
   have h0:((List.range ops.size).filter fun j=>!listed.getD j true)=[]:=List.eq_nil_of_length_eq_zero (by unfold unlisted at hu;omega)
   rw [List.eq_nil_iff_forall_not_mem]
   intro j hj
   rw [mem_ready] at hj
   obtain ⟨p1,o,p2,_⟩:=hj
   have hlt:j<ops.size:=(Array.getElem?_eq_some_iff.1 p2).1
   have:j∈((List.range ops.size).filter fun j=>!listed.getD j true):=List.mem_filter.2 ⟨List.mem_range.2 hlt,by rw [p1];rfl⟩
   rw [h0] at this;simp at this
  exact ⟨hr,fin listed s a w S g L hsz hr R h1 h2 hL⟩
 | succ fuel ih=>
  intro listed s a w S g L hsz hu hD R h1 h2 hL
  refine ⟨fun hr=>fin listed s a w S g L hsz hr R h1 h2 hL,fun i hi=>?_⟩
  rw [mem_ready] at hi
  obtain ⟨hi0,o,ho,hafter⟩:=hi
  have hilt:i<ops.size:=(Array.getElem?_eq_some_iff.1 ho).1
  have hi0':listed.getD i false=false:=by rw [getD_any (by omega) false true];exact hi0
  obtain ⟨later,it,earlier,e1,e2,e3,e4,e5,e6⟩:=hg.at i (by omega)
  obtain ⟨o',p1,pdst,ptopo,pbef,pclash,pdom,pg,pev⟩:=e4.ex
  rw [e3,ho] at p1
  simp only [Option.some.injEq] at p1
  subst p1
  let D:Nat→Prop:=fun j=>listed.getD j false=true
  have hbef:∀j∈it.r.bef,D j:=pbef D hD hafter
  -- the later ones that have gone have nothing to do with it
  have hlater:∀k∈later,listed.getD k.r.i false=true→Apart k.r it.r∧k.r.dom=domU k.u:=by
   intro k hk hkd
   obtain ⟨q1,e,q2,q3⟩:=e6 k hk
   obtain ⟨ok,r1,_,_,r4,r5,r6,_⟩:=q2.ex
   refine ⟨?_,r6⟩
   rcases r5 it q3 with h | h
   ·exfalso
    have:=r4 D hD (fun e he hb=>hD _ ok r1 hkd e he hb) _ h
    rw [e3] at this
    simp only [D,hi0'] at this
    simp at this
   ·exact h
  let listed':=listed.setIfInBounds i true
  have hl'ne:∀j,j≠i→listed'.getD j false=listed.getD j false:=fun j hj=>getD_set_ne false (fun e=>hj e.symm)
  have hl'i:listed'.getD i false=true:=getD_set_self (by omega) false
  have ff:∀l:List Item,(∀k∈l,k.r.i≠i)→(l.filter fun k=>listed'.getD k.r.i false)=l.filter fun k=>listed.getD k.r.i false:=fun l hl=>List.filter_congr fun k hk=>hl'ne _ (hl k hk)
  have f0:(items.filter fun k=>listed.getD k.r.i false)=(later.filter fun k=>listed.getD k.r.i false)++(earlier.filter fun k=>listed.getD k.r.i false):=by
   rw [e1,List.filter_append,List.filter_cons_of_neg (by rw [e3,hi0'];simp)]
  have f1:(items.filter fun k=>listed'.getD k.r.i false)=(later.filter fun k=>listed.getD k.r.i false)++it::(earlier.filter fun k=>listed.getD k.r.i false):=by
   rw [e1,List.filter_append,List.filter_cons_of_pos (by rw [e3];exact hl'i),ff later fun k hk=>by have:=(e6 k hk).1;omega,ff earlier fun k hk=>by have:=e5 k hk;omega]
  rw [f0] at h1 h2
  have lks:∀t∈it.r.tm,look s.env t=lookT base.env earlier t:=by
   intro t ht
   rw [h1,lookT_skip _ fun k hk hkd=>?_,lookT_filter fun k hk hkd=>?_]
   ·rcases pclash k hk with h | h
    ·exact hbef _ h
    ·exact absurd ht (h.1 t hkd)
   ·obtain ⟨hk1,hk2⟩:=List.mem_filter.1 hk
    exact (hlater k hk1 hk2).1.2.1 t hkd ht
  have fds:∀x∈it.r.rd,find s.mem x=findT base.mem earlier x:=by
   intro x hx
   rw [h2,findT_skip _ fun k hk hkd=>?_,findT_filter fun k hk hkd=>?_]
   ·rcases pclash k hk with h | h
    ·exact hbef _ h
    ·obtain ⟨ek,hek⟩:∃e,ItemOk (Con P) T ops base k e:=by
      have hgen:∀{l:List Item},Good (Con P) T ops base l→∀j∈l,∃e,ItemOk (Con P) T ops base j e:=by
       intro l h
       induction h with
       | nil=>intro j hj;simp at hj
       | cons it l h hi ok ih=>
        intro j hj
        rcases List.mem_cons.1 hj with rfl | hj
        ·exact ⟨_,ok⟩
        ·exact ih j hj
      exact hgen hg k (by rw [e1];simp [hk])
     obtain ⟨_,_,_,_,_,_,r6,_⟩:=hek.ex
     exact absurd hx (h.2.2.2.1 x (by rw [r6];exact hkd))
   ·obtain ⟨hk1,hk2⟩:=List.mem_filter.1 hk
    obtain ⟨ap,dm⟩:=hlater k hk1 hk2
    exact ap.2.2.2.2.1 x hx (by rw [dm];exact hkd)
  have hF:Fresh L (base.next+stride * i):=by
   intro x hx1 hx2 hx
   rcases hL x hx with h | ⟨j,hj,h3,h4⟩
   ·omega
   ·have hji:j≠i:=by intro e;subst e;rw [hi0'] at hj;simp at hj
    rcases Nat.lt_or_gt_of_ne hji with h | h
    ·have:stride * j+stride≤stride * i:=by rw [← Nat.mul_succ];exact Nat.mul_le_mul_left _ h
     omega
    ·have:stride * i+stride≤stride * j:=by rw [← Nat.mul_succ];exact Nat.mul_le_mul_left _ h
     omega
  have hd':=hd o (Array.mem_of_getElem? ho)
  have hD':Down ops (fun j=>listed'.getD j false=true):=by
   intro k ok hok hk e he hb
   by_cases hki:k=i
   ·subst hki
    rw [ho] at hok;simp only [Option.some.injEq] at hok;subst hok
    exact getD_set_true (hafter e he hb)
   ·have hk:listed'.getD k false=true:=hk
    rw [hl'ne k hki] at hk
    exact getD_set_true (hD k ok hok hk e he hb)
  have hu':unlisted ops listed'≤fuel:=by
   have:unlisted ops listed'<unlisted ops listed:=by
    refine filter_lt (x:=i) (fun x hx=>?_) (List.mem_range.2 hilt) (by rw [hi0];rfl) (by
     show (!listed'.getD i true)=false
     rw [getD_set_self (by omega) true];rfl)
    by_cases e:x=i
    ·subst e;rw [hi0];rfl
    ·rw [← getD_set_ne true (fun h=>e h.symm) (i:=i)];exact hx
   omega
  have hL':∀{L':Nat→Prop},Names L L' (base.next+stride * i)→∀x,L' x→x<base.next∨∃j,listed'.getD j false=true∧base.next+stride * j≤x∧x<base.next+stride * j+stride:=by
   intro L' hn x hx
   rcases hn.2 x hx with h | h
   ·rcases hL x h with h | ⟨j,hj,h3⟩
    ·exact .inl h
    ·exact .inr ⟨j,getD_set_true hj,h3⟩
   ·exact .inr ⟨i,hl'i,h⟩
  have next:∀{a':Act} {w':World} {S':Nat→Prop} {g':Nat→OG} {L':Nat→Prop} {s':St},Rel B N w₀ L' s' a' w' S' g' []→(∀t,look s'.env t=if o.dst=some t then it.v else look s.env t)→(∀x,find s'.mem x=ovr it.u (find s.mem) x)→
    Names L L' (base.next+stride * i)→wpAny P .any ops Q fuel listed' a' w':=by
   intro a' w' S' g' L' s' R' q1 q2 hn
   refine ih listed' s' a' w' S' g' L' (by simp [listed',hsz]) hu' hD' R' (fun t=>?_) (fun x=>?_) (hL' hn)
   ·rw [q1,f1,lookT_insert _ fun k hk t hkd=>?_,pdst,h1]
    obtain ⟨hk1,hk2⟩:=List.mem_filter.1 hk
    exact (hlater k hk1 hk2).1.2.2.1 t hkd
   ·rw [q2,f1,findT_insert _ fun k hk x hx=>?_,show find s.mem=findT base.mem _ from funext h2]
    obtain ⟨hk1,hk2⟩:=List.mem_filter.1 hk
    obtain ⟨ap,dm⟩:=hlater k hk1 hk2
    rw [← dm]
    exact ap.2.2.2.2.2 x (by rw [pdom];exact hx)
  unfold wpOp
  simp only [ho]
  rcases pev with ⟨gp,hev⟩ | ⟨gp,hv,hu0⟩
  ·have hw:=GuardP.wanted R (gp.congr fun t ht=>lks t (pg t ht))
   rw [if_pos hw]
   have hx:=hev s lks fds (fun v' u'=>v'=it.v∧u'=it.u) ⟨rfl,rfl⟩
   rw [e3] at hx
   refine .inl (Oper.wp_mono (fun a' w' hp'=>?_) (stepX_sound (Q:=Q) hT hP R hF hx))
   obtain ⟨val,ea,v,u,S',g',L',⟨rfl,rfl⟩,hn,R',hv⟩:=hp'
   subst ea
   cases hdst:o.dst with
   | none=>exact next R' (fun t=>by rw [hdst];simp) (fun x=>find_append _ _ x) hn
   | some d=>
    refine next (R'.put (dstOk.lt hd' hdst) hv) (fun t=>?_) (fun x=>find_append _ _ x) hn
    show look ((d,it.v)::s.env) t=_
    rw [look_cons,hdst]
    by_cases e:d=t
    ·subst e;simp
    ·rw [if_neg e,if_neg (by simpa using e)]
  ·have hw:=GuardP.wanted R (gp.congr fun t ht=>lks t (pg t ht))
   rw [if_neg (by rw [hw];simp)]
   cases hdst:o.dst with
   | none=>exact next R (fun t=>by rw [hdst];simp) (fun x=>by rw [hu0];rfl) (.refl _ _)
   | some d=>
    refine next (R.put (dstOk.lt hd' hdst) (v:=.tup []) (.tup [] [] rfl (by simp))) (fun t=>?_) (fun x=>by rw [hu0];rfl) (.refl _ _)
    show look ((d,AV.tup [])::s.env) t=_
    rw [look_cons,hdst]
    by_cases e:d=t
    ·subst e;simp [hv]
    ·rw [if_neg e,if_neg (by simpa using e)]

theorem getD_replicate_false (n k:Nat):(Array.replicate n false).getD k false=false:=by
 simp only [Array.getD_eq_getD_getElem?,Array.getElem?_replicate]
 split <;> rfl

theorem draw_sound (hT:TOk P T) (hP:B.I P) (hm:P.follows .mixedOrders=true) (hd:∀o∈ops,dstOk N o=true) (R:Rel B N w₀ L s a w S g []) (hL:∀x,L x→x<s.next) (h:draw (Con P) T ops.toList K s)
  (hK:∀{s a w S g L},Rel B N w₀ L s a w S g []→(∀x,L x→x<s.next)→K s→Q .normal a w) (rid:Nat):(Code.region rid ops true).wp P Q a w:=by
 obtain ⟨items,s',hg,hlen,h1,h2,hn,hk⟩:=drawGo_items (base:=s) ops.toList 0 [] [] s (fun k=>by simp) rfl rfl .nil (fun _=>rfl) (fun _=>rfl) rfl h
 simp only [Nat.zero_add,Array.length_toList] at hlen hn
 refine wp_region_any hm ?_
 refine drawAny hT hP hg hlen hd (fun {s2 a2 w2 S2 g2 L2} R2 q1 q2 q3=>?_) ops.size (Array.replicate ops.size false) s a _ S g L (by simp) ?_ ?_ (R.world (w':={ w with drawn:=w.drawn+1 }) ((Below.refl _ _).drew)) ?_ ?_ (fun x hx=>.inl (hL x hx))
 ·exact hK (R2.congr (fun t=>by rw [h1,q1]) (fun x=>by rw [h2,q2])) (fun x hx=>by rw [hn];exact q3 x hx) hk
 ·unfold unlisted
  refine Nat.le_trans (List.length_filter_le _ _) (by simp)
 ·intro k o _ hk
  exfalso
  have hk:(Array.replicate ops.size false).getD k false=true:=hk
  rw [getD_replicate_false] at hk;simp at hk
 ·intro t
  have:(items.filter fun k=>(Array.replicate ops.size false).getD k.r.i false)=[]:=by
   rw [List.filter_eq_nil_iff]
   intro k _
   rw [getD_replicate_false];simp
  rw [this];rfl
 ·intro x
  have:(items.filter fun k=>(Array.replicate ops.size false).getD k.r.i false)=[]:=by
   rw [List.filter_eq_nil_iff]
   intro k _
   rw [getD_replicate_false];simp
  rw [this];rfl

end

end Go.Av
