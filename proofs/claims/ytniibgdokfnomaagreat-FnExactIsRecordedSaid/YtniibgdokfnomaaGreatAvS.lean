/- ABSTRACT VALUES: an operation yields one thing, and the same where more is known of memory. -/
import Derived.Test.YtniibgdokfnomaaGreatAvR
namespace Go.Av
open Go Go.RowKit
set_option linter.unusedSimpArgs false
set_option linter.unusedVariables false

/-- m' knows all that m knows -/
def Le (m m':Nat→Option AO):Prop:=∀o a,m o=some a→m' o=some a

theorem Le.ovr {m m':Nat→Option AO} (h:Le m m'):∀(u:Ups),Le (ovr u m) (ovr u m')
 | [],o,a,ha=>h o a ha
 | (p,b)::r,o,a,ha=>by
  simp only [Av.ovr] at ha ⊢
  split at ha
  ·exact ha
  ·exact Le.ovr h r o a ha

section
variable {m m':Nat→Option AO} (hm:Le m m')
include hm

theorem readC_mono {c:AV} {d:D} (h:readC m c=some d):readC m' c=some d:=by
 unfold readC at h ⊢
 split at h <;> first | exact h | skip
 ·split at h
  ·rename_i e;simp only [hm _ _ e];exact h
  ·rename_i e;simp only [hm _ _ e];exact h
  ·rename_i e;simp only [hm _ _ e];exact h
  ·simp at h
 ·split at h
  ·rename_i e;simp only [hm _ _ e];exact h
  ·rename_i e;simp only [hm _ _ e];exact h
  ·simp at h

theorem moveC_mono {c:AV} {x:D×Ups×Bool} (h:moveC m c=some x):moveC m' c=some x:=by
 unfold moveC at h ⊢
 split at h <;> first | exact h | skip
 ·split at h
  ·rename_i e;simp only [hm _ _ e];exact h
  ·rename_i e;simp only [hm _ _ e];exact h
  ·simp at h
 ·split at h
  ·rename_i e;simp only [hm _ _ e];exact h
  ·rename_i e;simp only [hm _ _ e];exact h
  ·simp at h

theorem readRow_mono:∀{cs:List AV} {ds:List D},readRow m cs=some ds→readRow m' cs=some ds
 | [],_,h=>h
 | c::cs,ds,h=>by
  simp only [readRow] at h ⊢
  split at h
  ·rename_i e
   split at h
   ·rename_i e';simp only [readC_mono hm e,readRow_mono e'];exact h
   ·simp at h
  ·simp at h

theorem readCaps_mono:∀{cs:List AV} {ds:List (List D)},readCaps m cs=some ds→readCaps m' cs=some ds
 | [],_,h=>h
 | c::cs,ds,h=>by
  unfold readCaps at h ⊢
  split at h
  ·exact h
  ·rename_i e
   simp only [List.cons.injEq] at e
   obtain ⟨rfl,rfl⟩:=e
   split at h
   ·rename_i e';simp only [readCaps_mono e'];exact h
   ·simp at h
  ·rename_i e
   simp only [List.cons.injEq] at e
   obtain ⟨rfl,rfl⟩:=e
   split at h
   ·rename_i e1
    split at h
    ·rename_i e2
     split at h
     ·rename_i e3;simp only [hm _ _ e1,readRow_mono hm e2,readCaps_mono e3];exact h
     ·simp at h
    ·simp at h
   ·simp at h
  ·simp at h

theorem readA_mono {c:AV} {d:DV} (h:readA m c=some d):readA m' c=some d:=by
 unfold readA at h ⊢
 split at h
 ·split at h
  ·rename_i e;simp only [readRow_mono hm e];exact h
  ·simp at h
 ·exact h
 ·split at h
  ·rename_i e1
   split at h
   ·rename_i e2;simp only [hm _ _ e1,readRow_mono hm e2];exact h
   ·simp at h
  ·simp at h
 ·split at h
  ·rename_i e;simp only [readCaps_mono hm e];exact h
  ·simp at h
 ·split at h
  ·rename_i e;simp only [readC_mono hm e];exact h
  ·simp at h

theorem readArgs_mono:∀{cs:List AV} {ds:List DV},readArgs m cs=some ds→readArgs m' cs=some ds
 | [],_,h=>h
 | c::cs,ds,h=>by
  simp only [readArgs] at h ⊢
  split at h
  ·rename_i e
   split at h
   ·rename_i e';simp only [readA_mono hm e,readArgs_mono e'];exact h
   ·simp at h
  ·simp at h

theorem sliceRows_mono {c:AV} {x:Nat×List (List D)} (h:sliceRows m c=some x):sliceRows m' c=some x:=by
 unfold sliceRows at h ⊢
 split at h <;> first | exact h | skip
 ·split at h
  ·rename_i e;simp only [hm _ _ e];exact h
  ·rename_i e;simp only [hm _ _ e];exact h
  ·simp at h
 ·split at h
  ·rename_i e;simp only [hm _ _ e];exact h
  ·rename_i e;simp only [hm _ _ e];exact h
  ·simp at h

theorem srcA_mono {fl:Bool} {c:AV} {x:Nat×List (List D)×Ups×Bool×Bool} (h:srcA m fl c=some x):srcA m' fl c=some x:=by
 unfold srcA at h ⊢
 split at h <;> first | exact h | skip
 ·split at h
  ·rename_i e;simp only [hm _ _ e];exact h
  ·rename_i e;simp only [hm _ _ e];exact h
  ·simp at h
 ·split at h
  ·rename_i e;simp only [hm _ _ e];exact h
  ·rename_i e;simp only [hm _ _ e];exact h
  ·simp at h

theorem dstA_mono {c:AV} {x:Nat×List (List D)×Ups×Bool} (h:dstA m c=some x):dstA m' c=some x:=by
 unfold dstA at h ⊢
 split at h <;> first | exact h | skip
 ·split at h
  ·rename_i e;simp only [hm _ _ e];exact h
  ·simp at h
end

theorem moveRow_mono:∀{m m':Nat→Option AO} {cs:List AV} {x:List D×Ups×Bool},Le m m'→moveRow m cs=some x→moveRow m' cs=some x
 | _,_,[],_,_,h=>h
 | m,m',c::cs,x,hm,h=>by
  simp only [moveRow] at h ⊢
  split at h
  ·rename_i e
   split at h
   ·rename_i e';simp only [moveC_mono hm e,moveRow_mono (hm.ovr _) e'];exact h
   ·simp at h
  ·simp at h

theorem rowsA_mono {size:Nat}:∀{m m':Nat→Option AO} {cs:List AV} {x:List (List D)×Ups×Bool},Le m m'→rowsA m size cs=some x→rowsA m' size cs=some x
 | _,_,[],_,_,h=>h
 | m,m',c::cs,x,hm,h=>by
  simp only [rowsA] at h ⊢
  split at h
  ·rename_i e0
   split at h
   ·rename_i e1 e2
    split at h
    ·rename_i e3;simp only [e0,e1,moveRow_mono hm e2,rowsA_mono (hm.ovr _) e3];exact h
    ·simp at h
   ·simp at h
  ·simp at h

theorem loadRow_det {i:TI} {cs:List AV} {j:Nat} {K:AV→Prop} (h:loadRow i cs j K):∃v,K v∧loadRow i cs j (fun v'=>v'=v):=by
 unfold loadRow at h ⊢
 split at h
 ·rename_i e
  split at h
  ·rename_i e1;exact ⟨_,h,by simp only [e,e1]⟩
  ·exact h.elim
 ·rename_i e
  split at h
  ·rename_i e1;exact ⟨_,h,by simp only [e,e1]⟩
  ·exact h.elim

theorem loadRow_imp {i:TI} {cs:List AV} {j:Nat} {K K':AV→Prop} (h:loadRow i cs j K) (hk:∀v,K v→K' v):loadRow i cs j K':=by
 obtain ⟨v,hv,hd⟩:=loadRow_det h
 unfold loadRow at hd ⊢
 split at hd
 ·split at hd
  ·subst hd;exact hk _ hv
  ·exact hd.elim
 ·split at hd
  ·subst hd;exact hk _ hv
  ·exact hd.elim

theorem binV_det {op:BinOp} {td:TD} {x y:Value} {K:Value→Prop} (h:binV op td x y K):∃v,K v∧binV op td x y (fun v'=>v'=v):=by
 unfold binV at h ⊢
 split at h
 ·split at h
  ·rename_i e
   simp only [e]
   split at h <;> first | exact h.elim | exact ⟨_,h,rfl⟩ | exact ⟨_,h.2,h.1,rfl⟩
  ·exact h.elim
 ·split at h <;> first | exact h.elim | exact ⟨_,h,rfl⟩ | exact ⟨_,h.2,h.1,rfl⟩
 ·split at h
  ·split at h <;> first | exact h.elim | exact ⟨_,h,rfl⟩
  ·exact h.elim
 ·exact h.elim

theorem binV_imp {op:BinOp} {td:TD} {x y:Value} {K K':Value→Prop} (h:binV op td x y K) (hk:∀v,K v→K' v):binV op td x y K':=by
 unfold binV at h ⊢
 split at h
 ·split at h
  ·rename_i e
   split at h <;> first | exact h.elim | exact hk _ h | exact ⟨h.1,hk _ h.2⟩
  ·exact h.elim
 ·split at h <;> first | exact h.elim | exact hk _ h | exact ⟨h.1,hk _ h.2⟩
 ·split at h
  ·split at h <;> first | exact h.elim | exact hk _ h
  ·exact h.elim
 ·exact h.elim

theorem binA_det {T:Tab} {op:BinOp} {td:TD} {x y:AV} {K:AV→Prop} (h:binA T op td x y K):∃v,K v∧binA T op td x y (fun v'=>v'=v):=by
 unfold binA at h ⊢
 split at h
 ·obtain ⟨v,hv,hd⟩:=binV_det h
  exact ⟨_,hv,binV_imp hd fun v' e=>by rw [e]⟩
 ·split at h
  ·split at h
   ·rename_i e
    simp only [e]
    split at h <;> first | exact h.elim | exact ⟨_,h,rfl⟩
   ·exact h.elim
  ·exact h.elim
 ·exact h.elim

theorem binA_imp {T:Tab} {op:BinOp} {td:TD} {x y:AV} {K K':AV→Prop} (h:binA T op td x y K) (hk:∀v,K v→K' v):binA T op td x y K':=by
 unfold binA at h ⊢
 split at h
 ·exact binV_imp h fun v hv=>hk _ hv
 ·split at h
  ·split at h
   ·rename_i e
    split at h <;> first | exact h.elim | exact hk _ h
   ·exact h.elim
  ·exact h.elim
 ·exact h.elim

theorem sliceStr_det {x:AV} {lo hi:Option Int} {K:AV→Prop} (h:sliceStr x lo hi K):∃v,K v∧sliceStr x lo hi (fun v'=>v'=v):=by
 unfold sliceStr at h ⊢
 split at h
 ·exact ⟨_,h.2,h.1,rfl⟩
 ·exact h.elim
theorem sliceStr_imp {x:AV} {lo hi:Option Int} {K K':AV→Prop} (h:sliceStr x lo hi K) (hk:∀v,K v→K' v):sliceStr x lo hi K':=by
 unfold sliceStr at h ⊢
 split at h
 ·exact ⟨h.1,hk _ h.2⟩
 ·exact h.elim

section
variable {m m':Nat→Option AO} (hm:Le m m')
include hm

theorem sliceA_det {size:Nat} {x:AV} {lo hi:Option Int} {K:AV→Prop} (h:sliceA m size x lo hi K):∃v,K v∧∀K':AV→Prop,K' v→sliceA m' size x lo hi K':=by
 unfold sliceA at h
 split at h
 ·split at h
  ·rename_i e;exact ⟨_,h.2,fun K' hk=>by simp only [sliceA,e];exact ⟨h.1,hk⟩⟩
  ·exact h.elim
 ·split at h
  ·rename_i e1 e2;exact ⟨_,h,fun K' hk=>by simp only [sliceA,e1,e2];exact hk⟩
  ·exact h.elim
 ·split at h
  ·rename_i e1
   split at h
   ·rename_i e;exact ⟨_,h.2,fun K' hk=>by simp only [sliceA,hm _ _ e1,e];exact ⟨h.1,hk⟩⟩
   ·exact h.elim
  ·exact h.elim
 ·split at h
  ·rename_i e1
   split at h
   ·rename_i e;exact ⟨_,h.2,fun K' hk=>by simp only [sliceA,hm _ _ e1,e];exact ⟨h.1,hk⟩⟩
   ·exact h.elim
  ·exact h.elim
 ·exact h.elim

theorem indexAddrA_det {size:Nat} {x:AV} {n:Int} {K:AV→Prop} (h:indexAddrA m size x n K):∃v,K v∧∀K':AV→Prop,K' v→indexAddrA m' size x n K':=by
 have get:∀{rows:List (List D)},0≤n∧n<rows.length→∃row,rows[n.toNat]?=some row:=fun hn=>⟨_,List.getElem?_eq_getElem (by omega)⟩
 unfold indexAddrA at h
 split at h
 ·split at h
  ·rename_i e
   obtain ⟨row,hr⟩:=get h.1
   exact ⟨_,h.2 row hr,fun K' hk=>by simp only [indexAddrA,e];exact ⟨h.1,fun row' hr'=>by rw [hr] at hr';simp only [Option.some.injEq] at hr';subst hr';exact hk⟩⟩
  ·exact h.elim
 ·split at h
  ·rename_i e1
   split at h
   ·rename_i e;exact ⟨_,h.2,fun K' hk=>by simp only [indexAddrA,hm _ _ e1,e];exact ⟨h.1,hk⟩⟩
   ·exact h.elim
  ·rename_i e1
   split at h
   ·rename_i e
    obtain ⟨row,hr⟩:=get h.1
    exact ⟨_,h.2 row hr,fun K' hk=>by simp only [indexAddrA,hm _ _ e1,e];exact ⟨h.1,fun row' hr'=>by rw [hr] at hr';simp only [Option.some.injEq] at hr';subst hr';exact hk⟩⟩
   ·exact h.elim
  ·rename_i e1
   split at h
   ·rename_i e;exact ⟨_,h.2,fun K' hk=>by simp only [indexAddrA,hm _ _ e1,e];exact ⟨h.1,hk⟩⟩
   ·exact h.elim
  ·exact h.elim
 ·split at h
  ·rename_i e1
   split at h
   ·rename_i e;exact ⟨_,h.2,fun K' hk=>by simp only [indexAddrA,hm _ _ e1,e];exact ⟨h.1,hk⟩⟩
   ·exact h.elim
  ·exact h.elim
 ·exact h.elim

theorem lenA_det {td:TD} {x:AV} {K:AV→Prop} (h:lenA m td x K):∃v,K v∧∀K':AV→Prop,K' v→lenA m' td x K':=by
 unfold lenA at h
 split at h
 ·split at h
  ·exact ⟨_,h,fun K' hk=>by simp only [lenA];exact hk⟩
  ·exact h.elim
 ·split at h
  ·exact ⟨_,h,fun K' hk=>by simp only [lenA];exact hk⟩
  ·exact ⟨_,h,fun K' hk=>by simp only [lenA];exact hk⟩
  ·split at h
   ·rename_i e;exact ⟨_,h,fun K' hk=>by simp only [lenA,hm _ _ e];exact hk⟩
   ·rename_i e;exact ⟨_,h,fun K' hk=>by simp only [lenA,hm _ _ e];exact hk⟩
   ·rename_i e;exact ⟨_,h,fun K' hk=>by simp only [lenA,hm _ _ e];exact hk⟩
   ·exact h.elim
  ·split at h
   ·rename_i e;exact ⟨_,h,fun K' hk=>by simp only [lenA,hm _ _ e];exact hk⟩
   ·rename_i e;exact ⟨_,h,fun K' hk=>by simp only [lenA,hm _ _ e];exact hk⟩
   ·exact h.elim
  ·exact h.elim
 ·exact h.elim

theorem appendA_det {id:Nat} {ti:TI} {x y:AV} {K:AV→Ups→Prop} (h:appendA m id ti x y K):∃v u,K v u∧∀K':AV→Ups→Prop,K' v u→appendA m' id ti x y K':=by
 unfold appendA at h
 split at h
 ·rename_i e1
  split at h
  ·rename_i e2
   split at h
   ·rename_i e3 e4
    exact ⟨_,_,h.2.2,fun K' hk=>by simp only [appendA,srcA_mono hm e1,dstA_mono (hm.ovr _) e2,e3,e4];exact ⟨h.1,h.2.1,hk⟩⟩
   ·exact h.elim
  ·exact h.elim
 ·exact h.elim

end

theorem mem_addN {x o:Nat} {l:List Nat} (h:x∈l):x∈addN o l:=by
 unfold addN
 split
 ·exact h
 ·exact List.mem_append_left _ h
mutual
theorem mem_collV {x:Nat}:∀{a:AV} {l:List Nat},x∈l→x∈collV l a
 | .any,l,h=>by simpa [collV] using h
 | .nil k,l,h=>by simpa [collV] using h
 | .d y,l,h=>by simpa [collV] using h
 | .dp row j,l,h=>by simpa [collV] using h
 | .ptr o i j,l,h=>by rw [collV];exact mem_addN h
 | .sl o,l,h=>by rw [collV];exact mem_addN h
 | .sub o lo n,l,h=>by rw [collV];exact mem_addN h
 | .cel o i j,l,h=>by simpa [collV] using h
 | .agg cs,l,h=>by rw [collV];exact mem_collL h
 | .tup cs,l,h=>by rw [collV];exact mem_collL h
 | .fn f cs,l,h=>by rw [collV];exact mem_collL h
theorem mem_collL {x:Nat}:∀{cs:List AV} {l:List Nat},x∈l→x∈collL l cs
 | [],l,h=>by simpa [collL] using h
 | c::cs,l,h=>by rw [collL];exact mem_collL (mem_collV h)
end
theorem mem_collN {m:Nat→Option AO} {x:Nat}:∀{f i:Nat} {l:List Nat},x∈l→x∈collN m f i l
 | 0,i,l,h=>by simpa [collN] using h
 | f+1,i,l,h=>by
  rw [collN]
  split
  ·split
   ·exact mem_collN (mem_collL h)
   ·exact mem_collN h
  ·exact h
theorem collN_mono {m m':Nat→Option AO} (hm:Le m m'):∀{f i:Nat} {l:List Nat},(∀o∈collN m f i l,m o≠none)→collN m' f i l=collN m f i l
 | 0,i,l,_=>by simp [collN]
 | f+1,i,l,h=>by
  rw [collN,collN]
  rw [collN] at h
  split
  ·rename_i o ho
   rw [ho] at h
   simp only at h
   have hol:o∈l:=List.mem_of_getElem? ho
   cases hmo:m o with
   | none=>
    rw [hmo] at h
    exact absurd hmo (h o (mem_collN hol))
   | some a=>
    rw [hmo] at h
    rw [hm o a hmo]
    cases a with
    | box cs=>exact collN_mono hm h
    | arr k rows own=>exact collN_mono hm h
    | fro k rows=>exact collN_mono hm h
    | pin cs=>exact collN_mono hm h
    | mp l=>exact collN_mono hm h
    | deep k rows=>exact collN_mono hm h
  ·rfl
theorem mapOs_mono {m m':Nat→Option AO} (hm:Le m m') {ρ:Nat→Option Nat}:∀{l:List Nat} {objs:List AO},mapOs m ρ l=some (objs.map some)→mapOs m' ρ l=some (objs.map some)∧∀o∈l,m o≠none
 | [],objs,h=>⟨h,by simp⟩
 | o::r,objs,h=>by
  simp only [mapOs] at h ⊢
  split at h
  ·rename_i a ha
   split at h
   ·rename_i a' ha'
    split at h
    ·rename_i rs hr
     simp only [Option.some.injEq] at h
     cases objs with
     | nil=>simp at h
     | cons x xs=>
      simp only [List.map_cons,List.cons.injEq] at h
      obtain ⟨e1,e2⟩:=h
      subst e2
      obtain ⟨q1,q2⟩:=mapOs_mono hm hr
      refine ⟨by simp only [hm o a ha,ha',q1,e1,List.map_cons],fun x hx=>?_⟩
      rcases List.mem_cons.1 hx with rfl | hx
      ·rw [ha];simp
      ·exact q2 x hx
    ·simp at h
   ·simp at h
  ·split at h
   ·simp only [Option.some.injEq] at h
    cases objs <;> simp at h
   ·simp at h
theorem canon_mono {m m':Nat→Option AO} (hm:Le m m') {roots:List AV} {l:List Nat} {args:List AV} {os:List (Option AO)} {objs:List AO} (h:canon m [] roots=some (l,args,os)) (ha:allSome os=some objs):canon m' [] roots=some (l,args,os):=by
 have hos:os=objs.map some:=allSome_get ha
 subst hos
 unfold canon at h ⊢
 have key:∀l',collN m 24 0 (collL [] roots)=l'→collN m' 24 0 (collL [] roots)=l'∨canonL m roots l'≠some (l,args,objs.map some):=by
  intro l' e
  rcases Classical.em (canonL m roots l'=some (l,args,objs.map some)) with hc | hc
  ·left
   rw [← e]
   refine collN_mono hm fun o ho=>?_
   rw [e] at ho
   unfold canonL at hc
   split at hc
   ·split at hc
    ·split at hc
     ·rename_i os hos
      simp only [Option.some.injEq,Prod.mk.injEq] at hc
      obtain ⟨rfl,rfl,rfl⟩:=hc
      exact (mapOs_mono hm hos).2 o ho
     ·simp at hc
    ·simp at hc
   ·simp at hc
  ·exact .inr hc
 rcases key _ rfl with e | e
 ·rw [e]
  generalize collN m 24 0 (collL [] roots)=l' at h
  unfold canonL at h ⊢
  split at h
  ·split at h
   ·split at h
    ·rename_i os hos
     simp only [Option.some.injEq,Prod.mk.injEq] at h
     obtain ⟨rfl,rfl,rfl⟩:=h
     simp only [(mapOs_mono hm hos).1]
    ·simp at h
   ·simp at h
  ·simp at h
 ·exact absurd h e

theorem pureA_det {C:Contract} {dp:Bool} {m m':Nat→Option AO} (hm:Le m m') {id:Nat} {g:FuncId} {args:List AV} {K:AV→Ups→Prop} (h:pureA C dp m id g args K):∃v u,K v u∧∀K':AV→Ups→Prop,K' v u→pureA C dp m' id g args K':=by
 unfold pureA at h ⊢
 split at h
 ·rename_i e1
  obtain ⟨res,hc,h⟩:=h
  split at h
  ·rename_i e2;exact ⟨_,_,h,fun K' hk=>by simp only [readArgs_mono hm e1];exact ⟨res,hc,by simp only [e2];exact hk⟩⟩
  ·exact h.elim
 ·exact h.elim

theorem turnA_det {C:Contract} {m m':Nat→Option AO} (hm:Le m m') {id:Nat} {g:FuncId} {args:List AV} {K:AV→Ups→Prop} (h:turnA C m id g args K):∃v u,K v u∧∀K':AV→Ups→Prop,K' v u→turnA C m' id g args K':=by
 simp only [turnA_eq] at h ⊢
 split at h
 ·rename_i hc
  split at h
  ·rename_i hs
   obtain ⟨hf,objs',rv,ht,h⟩:=h
   split at h
   ·rename_i e1
    split at h
    ·rename_i e2
     split at h
     ·rename_i e3
      refine ⟨_,_,h,fun K' hk=>?_⟩
      simp only [canon_mono hm hc hs,hs]
      exact ⟨hf,objs',rv,ht,by simp only [e1,e2,e3];exact hk⟩
     ·exact h.elim
    ·exact h.elim
   ·exact h.elim
  ·exact h.elim
 ·exact h.elim

theorem celA_det {C:Contract} {m m':Nat→Option AO} (hm:Le m m') {g:FuncId} {args:List AV} {K:AV→Ups→Prop} (h:celA C m g args K):∃v u,K v u∧∀K':AV→Ups→Prop,K' v u→celA C m' g args K':=by
 unfold celA at h
 split at h
 ·split at h
  ·rename_i e1 e2
   have hr:=List.getElem?_eq_getElem h.1
   have h2:=h.2 _ hr
   split at h2
   ·rename_i e3
    split at h2
    ·rename_i e4
     obtain ⟨r2,x,ht,hk⟩:=h2
     refine ⟨_,_,hk,fun K' hk'=>?_⟩
     unfold celA
     simp only [hm _ _ e1,e2]
     refine ⟨h.1,fun row hrow=>?_⟩
     rw [hr] at hrow;simp only [Option.some.injEq] at hrow;subst hrow
     simp only [e3,e4]
     exact ⟨r2,x,ht,hk'⟩
    ·exact h2.elim
   ·exact h2.elim
  ·exact h.elim
 ·exact h.elim

theorem callA_det {C:Contract} {m m':Nat→Option AO} (hm:Le m m') {id:Nat} {g:FuncId} {args:List AV} {K:AV→Ups→Prop} (h:callA C m id g args K):∃v u,K v u∧∀K':AV→Ups→Prop,K' v u→callA C m' id g args K':=by
 unfold callA at h ⊢
 simp only [forceId_eq] at h ⊢
 rcases h with h | h | h | h
 ·obtain ⟨v,u,h1,h2⟩:=pureA_det hm h
  exact ⟨v,u,h1,fun K' hk=>.inl (h2 K' hk)⟩
 ·obtain ⟨v,u,h1,h2⟩:=turnA_det hm h
  exact ⟨v,u,h1,fun K' hk=>.inr (.inl (h2 K' hk))⟩
 ·obtain ⟨v,u,h1,h2⟩:=pureA_det hm h
  exact ⟨v,u,h1,fun K' hk=>.inr (.inr (.inl (h2 K' hk)))⟩
 ·obtain ⟨v,u,h1,h2⟩:=celA_det hm h
  exact ⟨v,u,h1,fun K' hk=>.inr (.inr (.inr (h2 K' hk)))⟩

theorem stepR_det {C:Contract} {T:Tab} {o:Oper} {ρ:TypeId→Operand→AV} {m m':Nat→Option AO} (hm:Le m m') {id:Nat} {K:AV→Ups→Prop} (h:stepR C T o ρ m id K):
  ∃v u,K v u∧∀K':AV→Ups→Prop,K' v u→stepR C T o ρ m' id K':=by
 unfold stepR at h
 split at h
 ·rename_i ho;exact ⟨_,_,h,fun K' hk=>by unfold stepR;rw [ho];exact hk⟩
 ·rename_i ho;exact ⟨_,_,h,fun K' hk=>by unfold stepR;rw [ho];exact hk⟩
 ·rename_i ho
  split at h
  ·rename_i t e
   cases t
   ·exact ⟨_,_,h,fun K' hk=>by unfold stepR;rw [ho];simp only [e];exact hk⟩
   ·exact ⟨_,_,h,fun K' hk=>by unfold stepR;rw [ho];simp only [e];exact hk⟩
  ·exact h.elim
 ·rename_i ho
  split at h
  ·rename_i e;exact ⟨_,_,h,fun K' hk=>by unfold stepR;rw [ho];simp only [e];exact hk⟩
  ·exact h.elim
 ·rename_i ho
  split at h
  ·rename_i e;exact ⟨_,_,h,fun K' hk=>by unfold stepR;rw [ho];simp only [e];exact hk⟩
  ·exact h.elim
 ·rename_i ho
  split at h
  ·rename_i e
   split at h
   ·rename_i e1
    split at h
    ·rename_i e2;exact ⟨_,_,h,fun K' hk=>by unfold stepR;rw [ho];simp only [e,e1,e2];exact hk⟩
    ·exact h.elim
   ·exact h.elim
  ·exact h.elim
 ·rename_i ho
  split at h
  ·rename_i e
   split at h
   ·rename_i e1
    split at h
    ·rename_i e2
     split at h
     ·rename_i q1 q2 q3 q4;exact ⟨_,_,h,fun K' hk=>by unfold stepR;rw [ho];simp only [e,e1,e2,q1,q2,q3,rowsA_mono hm q4];exact hk⟩
     ·exact h.elim
    ·exact h.elim
   ·exact h.elim
  ·exact h.elim
 ·rename_i ho
  split at h
  ·rename_i i e
   split at h
   ·rename_i e1
    split at h
    ·rename_i e2
     split at h
     ·rename_i e3
      obtain ⟨v,hv,hd⟩:=loadRow_det h
      exact ⟨_,_,hv,fun K' hk=>by unfold stepR;rw [ho];simp only [e,e1,hm _ _ e2,e3];exact loadRow_imp hd fun v' hv'=>by rw [hv'];exact hk⟩
     ·exact h.elim
    ·rename_i e2
     have hr:=List.getElem?_eq_getElem h.1
     obtain ⟨v,hv,hd⟩:=loadRow_det (h.2 _ hr)
     exact ⟨_,_,hv,fun K' hk=>by
      unfold stepR;rw [ho];simp only [e,e1,hm _ _ e2]
      refine ⟨h.1,fun row hrow=>?_⟩
      rw [hr] at hrow;simp only [Option.some.injEq] at hrow;subst hrow
      exact loadRow_imp hd fun v' hv'=>by rw [hv'];exact hk⟩
    ·rename_i e2
     have hr:=List.getElem?_eq_getElem h.1
     obtain ⟨v,hv,hd⟩:=loadRow_det (h.2 _ hr)
     exact ⟨_,_,hv,fun K' hk=>by
      unfold stepR;rw [ho];simp only [e,e1,hm _ _ e2]
      refine ⟨h.1,fun row hrow=>?_⟩
      rw [hr] at hrow;simp only [Option.some.injEq] at hrow;subst hrow
      exact loadRow_imp hd fun v' hv'=>by rw [hv'];exact hk⟩
    ·exact h.elim
   ·rename_i e1
    obtain ⟨v,hv,hd⟩:=loadRow_det h
    exact ⟨_,_,hv,fun K' hk=>by unfold stepR;rw [ho];simp only [e,e1];exact loadRow_imp hd fun v' hv'=>by rw [hv'];exact hk⟩
   ·exact h.elim
  ·exact h.elim
 ·rename_i ho
  split at h
  ·rename_i e1
   split at h
   ·rename_i e2;exact ⟨_,_,h,fun K' hk=>by unfold stepR;rw [ho];simp only [e1,hm _ _ e2];exact hk⟩
   ·exact h.elim
  ·rename_i e1;exact ⟨_,_,h,fun K' hk=>by unfold stepR;rw [ho];simp only [e1];exact hk⟩
  ·rename_i e1;exact ⟨_,_,h,fun K' hk=>by unfold stepR;rw [ho];simp only [e1];exact hk⟩
  ·exact h.elim
 ·rename_i ho
  split at h
  ·rename_i e
   obtain ⟨v,hv,hd⟩:=binA_det h
   exact ⟨_,_,hv,fun K' hk=>by unfold stepR;rw [ho];simp only [e];exact binA_imp hd fun v' hv'=>by rw [hv'];exact hk⟩
  ·exact h.elim
 ·rename_i ho
  split at h
  ·rename_i e;exact ⟨_,_,h,fun K' hk=>by unfold stepR;rw [ho];simp only [e];exact hk⟩
  ·rename_i e;exact ⟨_,_,h,fun K' hk=>by unfold stepR;rw [ho];simp only [e];exact hk⟩
  ·exact h.elim
 ·rename_i ho
  split at h
  ·rename_i e1 e2
   split at h
   ·rename_i q1 q2;exact ⟨_,_,h,fun K' hk=>by unfold stepR;rw [ho];simp only [e1,e2,q1,q2];exact hk⟩
   ·rename_i q1 q2;exact ⟨_,_,h,fun K' hk=>by unfold stepR;rw [ho];simp only [e1,e2,q1,q2];exact hk⟩
   ·rename_i q1 q2
    split at h
    ·rename_i e3
     split at h
     ·rename_i e4;exact ⟨_,_,h.2,fun K' hk=>by unfold stepR;rw [ho];simp only [e1,e2,q1,q2,e3,e4];exact ⟨h.1,hk⟩⟩
     ·exact h.elim
    ·exact h.elim
   ·rename_i q1 q2 q3
    split at h
    ·rename_i e3 e4
     split at h
     ·rename_i e5
      obtain ⟨l,hl,h⟩:=h
      exact ⟨_,_,h,fun K' hk=>by
       unfold stepR;rw [ho];simp only [e1,e2,q1,q2,e3,sliceRows_mono hm e4,e5]
       exact ⟨l,hl,hk⟩⟩
     ·exact h.elim
    ·exact h.elim
   ·exact h.elim
  ·exact h.elim
 ·rename_i ho;exact ⟨_,_,h,fun K' hk=>by unfold stepR;rw [ho];exact hk⟩
 ·rename_i ho
  split at h
  ·rename_i e
   split at h
   ·rename_i e1
    split at h
    ·rename_i e2 e3 e4
     split at h
     ·rename_i e5;exact ⟨_,_,h.2,fun K' hk=>by unfold stepR;rw [ho];simp only [e,e1,e2,e3,e4,readRow_mono hm e5];exact ⟨h.1,hk⟩⟩
     ·exact h.elim
    ·exact h.elim
   ·exact h.elim
  ·exact h.elim
 ·rename_i ho
  split at h
  ·rename_i e
   split at h
   ·rename_i e1;exact ⟨_,_,h,fun K' hk=>by unfold stepR;rw [ho];simp only [e,e1];exact hk⟩
   ·exact h.elim
  ·exact h.elim
 ·rename_i ho
  split at h
  ·rename_i e
   split at h
   ·rename_i e1
    split at h
    ·rename_i e2
     split at h
     ·rename_i q1 q2 q3 q4
      split at h
      ·rename_i e5;exact ⟨_,_,h,fun K' hk=>by unfold stepR;rw [ho];simp only [e,e1,e2,q1,q2,q3,q4,hm _ _ e5];exact hk⟩
      ·exact h.elim
     ·exact h.elim
    ·exact h.elim
   ·exact h.elim
  ·exact h.elim
 ·rename_i ho
  split at h
  ·rename_i e
   split at h
   ·rename_i e1
    split at h
    ·rename_i e2 e3
     split at h
     ·rename_i q1 q2 q3 q4
      split at h
      ·rename_i z
       split at h
       ·rename_i e5;exact ⟨_,_,h,fun K' hk=>by unfold stepR;rw [ho];simp only [e,e1,e2,e3,q1,q2,q3,q4,z,hm _ _ e5];exact hk⟩
       ·exact h.elim
      ·exact h.elim
     ·exact h.elim
    ·exact h.elim
   ·exact h.elim
  ·exact h.elim
 ·rename_i ho
  split at h
  ·rename_i e
   split at h
   ·rename_i e1 e2
    split at h
    ·rename_i e3
     obtain ⟨v,hv,hd⟩:=sliceStr_det h
     exact ⟨_,_,hv,fun K' hk=>by unfold stepR;rw [ho];simp only [e,e1,e2,e3];exact sliceStr_imp hd fun v' hv'=>by rw [hv'];exact hk⟩
    ·rename_i e3
     split at h
     ·rename_i e4
      obtain ⟨v,hv,hd⟩:=sliceA_det hm h
      exact ⟨_,_,hv,fun K' hk=>by unfold stepR;rw [ho];simp only [e,e1,e2,e3,e4];exact hd _ hk⟩
     ·exact h.elim
    ·exact h.elim
   ·exact h.elim
  ·exact h.elim
 ·rename_i ho
  split at h
  ·rename_i e
   split at h
   ·rename_i e1
    split at h
    ·rename_i e2
     split at h
     ·rename_i e3
      split at h
      ·rename_i e4
       split at h
       ·rename_i e5;exact ⟨_,_,h,fun K' hk=>by unfold stepR;rw [ho];simp only [e,e1,e2,e3,e4,hm _ _ e5];exact hk⟩
       ·exact h.elim
      ·rename_i e4;exact ⟨_,_,h,fun K' hk=>by unfold stepR;rw [ho];simp only [e,e1,e2,e3,e4];exact hk⟩
      ·exact h.elim
     ·exact h.elim
    ·exact h.elim
   ·exact h.elim
  ·exact h.elim
 ·rename_i ho
  split at h
  ·rename_i e
   split at h
   ·rename_i e1
    split at h
    ·rename_i e2 e3
     split at h
     ·rename_i e4
      obtain ⟨v,hv,hd⟩:=loadRow_det h
      exact ⟨_,_,hv,fun K' hk=>by unfold stepR;rw [ho];simp only [e,e1,e2,e3,e4];exact loadRow_imp hd fun v' hv'=>by rw [hv'];exact hk⟩
     ·exact h.elim
    ·exact h.elim
   ·exact h.elim
  ·exact h.elim
 ·rename_i ho
  split at h
  ·rename_i e
   split at h
   ·rename_i e1
    split at h
    ·rename_i e2 e3
     obtain ⟨v,hv,hd⟩:=indexAddrA_det hm h
     exact ⟨_,_,hv,fun K' hk=>by unfold stepR;rw [ho];simp only [e,e1,e2,e3];exact hd _ hk⟩
    ·exact h.elim
   ·exact h.elim
  ·exact h.elim
 ·rename_i ho
  split at h
  ·rename_i e
   split at h
   ·rename_i e1 e2 e3;exact ⟨_,_,h.2,fun K' hk=>by unfold stepR;rw [ho];simp only [e,e1,e2,e3];exact ⟨h.1,hk⟩⟩
   ·exact h.elim
  ·exact h.elim
 ·rename_i ho
  split at h
  ·rename_i e
   split at h
   ·rename_i e1;exact ⟨_,_,h,fun K' hk=>by unfold stepR;rw [ho];simp only [e,e1];exact hk⟩
   ·exact h.elim
  ·exact h.elim
 ·rename_i ho
  split at h
  ·rename_i e
   rw [lenK_eq] at h
   obtain ⟨v,hv,hd⟩:=lenA_det hm h
   exact ⟨_,_,hv,fun K' hk=>by unfold stepR;rw [ho];simp only [e,lenK_eq];exact hd _ hk⟩
  ·exact h.elim
 ·rename_i ho
  split at h
  ·rename_i e
   split at h
   ·rename_i e1
    split at h
    ·rename_i e2
     split at h
     ·rename_i e3
      obtain ⟨v,u,hv,hd⟩:=appendA_det hm h
      exact ⟨_,_,hv,fun K' hk=>by unfold stepR;rw [ho];simp only [e,e1,e2,e3];exact hd _ hk⟩
     ·exact h.elim
    ·exact h.elim
   ·exact h.elim
  ·exact h.elim
 ·rename_i ho
  split at h
  ·rename_i e;exact ⟨_,_,h,fun K' hk=>by unfold stepR;rw [ho];simp only [e];exact hk⟩
  ·exact h.elim
 ·rename_i ho
  split at h
  ·rename_i e;exact ⟨_,_,h,fun K' hk=>by unfold stepR;rw [ho];simp only [e];exact hk⟩
  ·exact h.elim
 ·rename_i ho
  split at h
  ·rename_i e
   obtain ⟨v,u,h1,h2⟩:=callA_det hm h
   exact ⟨v,u,h1,fun K' hk=>by unfold stepR;rw [ho];simp only [e];exact h2 K' hk⟩
  ·exact h.elim
 ·exact h.elim

theorem stepW_det {T:Tab} {o:Oper} {ρ:TypeId→Operand→AV} {m m':Nat→Option AO} (hm:Le m m') {K:AV→Ups→Prop} (h:stepW T o ρ m K):
  ∃v u,K v u∧∀K':AV→Ups→Prop,K' v u→stepW T o ρ m' K':=by
 unfold stepW at h
 split at h
 ·rename_i ho hd
  split at h
  ·rename_i e1 e2 e3
   split at h
   ·rename_i e4
    split at h
    ·rename_i e5
     split at h
     ·rename_i e6 e7;exact ⟨_,_,h,fun K' hk=>by unfold stepW;rw [ho,hd];simp only [e1,e2,e3,e4,hm _ _ e5,e6,e7];exact hk⟩
     ·exact h.elim
    ·rename_i e5
     split at h
     ·rename_i e6
      split at h
      ·rename_i e7
       obtain ⟨row,hr⟩:∃row,_=some row:=⟨_,List.getElem?_eq_getElem h.1⟩
       have h2:=h.2 row hr
       split at h2
       ·rename_i e8
        exact ⟨_,_,h2,fun K' hk=>by
         unfold stepW;rw [ho,hd];simp only [e1,e2,e3,e4,hm _ _ e5,moveRow_mono hm e6,hm.ovr _ _ _ e7]
         refine ⟨h.1,fun row hrow=>?_⟩
         rw [hr] at hrow;simp only [Option.some.injEq] at hrow;subst hrow
         simp only [e8];exact hk⟩
       ·exact h2.elim
      ·exact h.elim
     ·exact h.elim
    ·rename_i e5
     obtain ⟨row,hr⟩:∃row,_=some row:=⟨_,List.getElem?_eq_getElem h.1⟩
     have h2:=h.2 row hr
     split at h2
     ·rename_i e6
      split at h2
      ·rename_i e7 e8
       exact ⟨_,_,h2,fun K' hk=>by
        unfold stepW;rw [ho,hd];simp only [e1,e2,e3,e4,hm _ _ e5]
        refine ⟨h.1,fun row hrow=>?_⟩
        rw [hr] at hrow;simp only [Option.some.injEq] at hrow;subst hrow
        simp only [e6,e7,e8];exact hk⟩
      ·exact h2.elim
     ·exact h2.elim
    ·exact h.elim
   ·exact h.elim
  ·exact h.elim
 ·exact h.elim

theorem stepX_det {C:Contract} {T:Tab} {o:Oper} {ρ:TypeId→Operand→AV} {m m':Nat→Option AO} (hm:Le m m') {id:Nat} {K:AV→Ups→Prop} (h:stepX C T o ρ m id K):
  ∃v u,K v u∧∀K':AV→Ups→Prop,K' v u→stepX C T o ρ m' id K':=by
 unfold stepX at h ⊢
 split at h
 ·rename_i e;exact stepW_det hm h
 ·rename_i e;exact stepR_det hm h

end Go.Av
