/- ABSTRACT VALUES: what a function does with objects, from its body's walk. -/
import Derived.Test.YtniibgdokfnomaaGreatAvY
namespace Go.Av
open Go Go.RowKit
set_option linter.unusedSimpArgs false
set_option linter.unusedVariables false

/-! ### the body with objects -/
/-- one reference to each object, kept in mind -/
def pinsOf:Nat→List AO→List AV
 | _,[]=>[]
 | i,.box _::r=>.ptr i 0 0::pinsOf (i+1) r
 | i,_::r=>.sl i::pinsOf (i+1) r
def findPin (all:List (Nat×Option AO)):List (Nat×Option AO)→Option (List AV)
 | []=>none
 | (o,some (.pin _))::r=>match find all o with | some (.pin cs)=>some cs | _=>findPin all r
 | _::r=>findPin all r
def pinName (m:Nat→Option AO) (nx:Nat):AV→Nat
 | .sl o=>match m o with | some _=>o | none=>nx
 | .ptr o 0 0=>match m o with | some _=>o | none=>nx
 | _=>nx
def pinNames (m:Nat→Option AO):Nat→List AV→List Nat
 | _,[]=>[]
 | nx,c::r=>pinName m nx c::pinNames m (nx+1) r
def oneV:List AV→AV
 | [v]=>v
 | vs=>.tup vs
def doneT (T:Tab) (rs:List ResultVar) (s:St) (R:List (Option AO)→AV→Prop):Prop:=
 match resVs T s rs with
 | some vs=>match findPin s.mem s.mem with
  | some cs=>forceN (pinNames (find s.mem) s.next cs) fun l=>collLK l [oneV vs] fun l=>collK (find s.mem) 24 0 l fun l=>match canonL (find s.mem) [oneV vs] l with
   | some (_,[rv],os)=>R os rv
   | _=>False
  | none=>False
 | none=>False
theorem doneT_eq {T:Tab} {rs:List ResultVar} {s:St} {R:List (Option AO)→AV→Prop}:doneT T rs s R=(match resVs T s rs with
 | some vs=>match findPin s.mem s.mem with
  | some cs=>match canon (find s.mem) (pinNames (find s.mem) s.next cs) [oneV vs] with
   | some (_,[rv],os)=>R os rv
   | _=>False
  | none=>False
 | none=>False):=by
 unfold doneT canon
 simp only [forceN_eq,collLK_eq,collK_eq]
def paramsA:Nat→List AV→List (Nat×AV)
 | _,[]=>[]
 | n,a::r=>(n,a)::paramsA (n+1) r
def startT (args:List AV) (objs:List AO):St:={ env:=paramsA 0 args,mem:=(objs.length,some (.pin (pinsOf 0 objs)))::lay 0 (objs.map some),next:=objs.length+1 }
def noDeep:List (Option AO)→Bool
 | []=>true
 | some (.deep _ _)::_=>false
 | _::r=>noDeep r
/-- each object of its kind still -/
def sameK:List AO→List (Option AO)→Bool
 | [],os=>noDeep os
 | .box _::r,none::r'=>sameK r r'
 | .arr _ _ _::r,none::r'=>sameK r r'
 | .box _::r,some (.box _)::r'=>sameK r r'
 | .deep k _::r,some (.deep k' _)::r'=>match Nat.beq k k' with | true=>sameK r r' | false=>false
 | .arr k _ _::r,some (.arr k' _ _)::r'=>match Nat.beq k k' with | true=>sameK r r' | false=>false
 | _,_=>false
def bodyT (C:Contract) (T:Tab) (RD:List Oper→(St→Prop)→St→Prop) (f:Func) (args:List AV) (objs:List AO) (R:List (Option AO)→AV→Prop):Prop:=
 match f.body with
 | some c=>run C T RD c (fun e s=>match e with
  | .exit _=>False
  | _=>match f.results with | ⟨rs⟩=>doneT T rs s R) (startT args objs)
 | none=>False

theorem look_paramsA {n t:Nat}:∀{ds:List AV},look (paramsA n ds) t=if n≤t∧t<n+ds.length then ds.getD (t - n) .any else .any
 | []=>by simp [paramsA,look]
 | d::ds=>by
  simp only [paramsA,look_cons]
  by_cases h:n=t
  ·subst h;rw [if_pos rfl,if_pos ⟨by omega,by simp⟩];simp
  ·rw [if_neg h,look_paramsA (n:=n+1)]
   by_cases h':n+1≤t∧t<n+1+ds.length
   ·rw [if_pos h',if_pos ⟨by omega,by simp only [List.length_cons];omega⟩]
    have e:t - n=(t - (n+1))+1:=by omega
    rw [e,List.getD_cons_succ]
   ·rw [if_neg h',if_neg (by simp only [List.length_cons];omega)]

theorem pinsOf_get:∀{objs:List AO} {n:Nat},(pinsOf n objs).length=objs.length∧∀i,i<objs.length→((pinsOf n objs).getD i .any=.ptr (n+i) 0 0∧∃cs,objs[i]?=some (.box cs))∨((pinsOf n objs).getD i .any=.sl (n+i)∧∀cs,objs[i]?≠some (.box cs))
 | [],n=>by simp [pinsOf]
 | a::r,n=>by
  obtain ⟨e1,e2⟩:=pinsOf_get (objs:=r) (n:=n+1)
  cases a with
  | box cs=>
   refine ⟨by simp [pinsOf,e1],fun i hi=>?_⟩
   cases i with
   | zero=>left;simp [pinsOf]
   | succ i=>have:=e2 i (by simpa using hi);simpa [pinsOf,Nat.add_assoc,Nat.add_comm 1 i] using this
  | arr k rows own=>
   refine ⟨by simp [pinsOf,e1],fun i hi=>?_⟩
   cases i with
   | zero=>right;simp [pinsOf]
   | succ i=>have:=e2 i (by simpa using hi);simpa [pinsOf,Nat.add_assoc,Nat.add_comm 1 i] using this
  | fro k rows=>
   refine ⟨by simp [pinsOf,e1],fun i hi=>?_⟩
   cases i with
   | zero=>right;simp [pinsOf]
   | succ i=>have:=e2 i (by simpa using hi);simpa [pinsOf,Nat.add_assoc,Nat.add_comm 1 i] using this
  | mp l=>
   refine ⟨by simp [pinsOf,e1],fun i hi=>?_⟩
   cases i with
   | zero=>right;simp [pinsOf]
   | succ i=>have:=e2 i (by simpa using hi);simpa [pinsOf,Nat.add_assoc,Nat.add_comm 1 i] using this
  | deep k rows=>
   refine ⟨by simp [pinsOf,e1],fun i hi=>?_⟩
   cases i with
   | zero=>right;simp [pinsOf]
   | succ i=>have:=e2 i (by simpa using hi);simpa [pinsOf,Nat.add_assoc,Nat.add_comm 1 i] using this
  | pin cs=>
   refine ⟨by simp [pinsOf,e1],fun i hi=>?_⟩
   cases i with
   | zero=>right;simp [pinsOf]
   | succ i=>have:=e2 i (by simpa using hi);simpa [pinsOf,Nat.add_assoc,Nat.add_comm 1 i] using this

theorem findPin_spec {all:List (Nat×Option AO)}:∀{l:List (Nat×Option AO)} {cs:List AV},findPin all l=some cs→∃o,find all o=some (.pin cs)
 | [],cs,h=>by simp [findPin] at h
 | (o,none)::r,cs,h=>findPin_spec (l:=r) (by simpa [findPin] using h)
 | (o,some (.box _))::r,cs,h=>findPin_spec (l:=r) (by simpa [findPin] using h)
 | (o,some (.arr _ _ _))::r,cs,h=>findPin_spec (l:=r) (by simpa [findPin] using h)
 | (o,some (.fro _ _))::r,cs,h=>findPin_spec (l:=r) (by simpa [findPin] using h)
 | (o,some (.mp _))::r,cs,h=>findPin_spec (l:=r) (by simpa [findPin] using h)
 | (o,some (.deep _ _))::r,cs,h=>findPin_spec (l:=r) (by simpa [findPin] using h)
 | (o,some (.pin _))::r,cs,h=>by
  simp only [findPin] at h
  split at h
  ·rename_i cs' hc;simp at h;subst h;exact ⟨o,hc⟩
  ·exact findPin_spec h

/-- an entry of the names: the object that the reference names, or a name that is not used -/
theorem pinNames_get {m:Nat→Option AO}:∀{cs:List AV} {nx:Nat},(pinNames m nx cs).length=cs.length∧∀i,i<cs.length→(∃o,m o≠none∧(pinNames m nx cs).getD i 0=o∧(cs.getD i .any=.sl o∨cs.getD i .any=.ptr o 0 0))∨nx≤(pinNames m nx cs).getD i 0
 | [],nx=>by simp [pinNames]
 | c::r,nx=>by
  obtain ⟨q1,q2⟩:=pinNames_get (m:=m) (cs:=r) (nx:=nx+1)
  have hx:(∃o,m o≠none∧pinName m nx c=o∧(c=.sl o∨c=.ptr o 0 0))∨nx≤pinName m nx c:=by
   unfold pinName
   split
   ·rename_i o
    cases hm:m o with
    | none=>right;exact Nat.le_refl _
    | some a=>left;exact ⟨o,by rw [hm];simp,rfl,.inl rfl⟩
   ·rename_i o
    cases hm:m o with
    | none=>right;exact Nat.le_refl _
    | some a=>left;exact ⟨o,by rw [hm];simp,rfl,.inr rfl⟩
   ·right;exact Nat.le_refl _
  refine ⟨by simp [pinNames,q1],fun i hi=>?_⟩
  cases i with
  | zero=>simpa [pinNames] using hx
  | succ i=>
   rcases q2 i (by simpa using hi) with h | h
   ·left;simpa [pinNames] using h
   ·right;simp only [pinNames,List.getD_cons_succ];omega

theorem addN_pre (o:Nat) (l:List Nat):∃t,addN o l=l++t:=by
 unfold addN
 split
 ·exact ⟨[],by simp⟩
 ·exact ⟨[o],rfl⟩
mutual
theorem collV_pre:∀(a:AV) (l:List Nat),∃t,collV l a=l++t
 | .any,l=>⟨[],by simp [collV]⟩
 | .nil k,l=>⟨[],by simp [collV]⟩
 | .d y,l=>⟨[],by simp [collV]⟩
 | .dp row j,l=>⟨[],by simp [collV]⟩
 | .ptr o i j,l=>by rw [collV];exact addN_pre o l
 | .sl o,l=>by rw [collV];exact addN_pre o l
 | .sub o lo n,l=>by rw [collV];exact addN_pre o l
 | .cel o i j,l=>⟨[],by simp [collV]⟩
 | .agg cs,l=>by rw [collV];exact collL_pre cs l
 | .tup cs,l=>by rw [collV];exact collL_pre cs l
 | .fn f cs,l=>by rw [collV];exact collL_pre cs l
theorem collL_pre:∀(cs:List AV) (l:List Nat),∃t,collL l cs=l++t
 | [],l=>⟨[],by simp [collL]⟩
 | c::cs,l=>by
  rw [collL]
  obtain ⟨t1,e1⟩:=collV_pre c l
  obtain ⟨t2,e2⟩:=collL_pre cs (collV l c)
  exact ⟨t1++t2,by rw [e2,e1,List.append_assoc]⟩
end
theorem collN_pre {m:Nat→Option AO}:∀(f i:Nat) (l:List Nat),∃t,collN m f i l=l++t
 | 0,i,l=>⟨[],by simp [collN]⟩
 | f+1,i,l=>by
  rw [collN]
  split
  ·split
   ·rename_i cs _
    obtain ⟨t1,e1⟩:=collL_pre cs l
    obtain ⟨t2,e2⟩:=collN_pre (m:=m) f (i+1) (collL l cs)
    exact ⟨t1++t2,by rw [e2,e1,List.append_assoc]⟩
   ·exact collN_pre f (i+1) l
  ·exact ⟨[],by simp⟩

section
variable {S S':Nat→Prop} {h h':Nat→Option Obj} {g g':Nat→OG} {m m':Nat→Option AO} {L L':Nat→Prop} {B B':Fr}
theorem RO.move (st:Step S S' h h' g g' m m' L L') {x:OG} {a:AO} (H:RO S h g m L B x a) (hb:∀b∈x.foot,¬ S b→h' b=h b∧¬ S' b) (hU:∀b∈x.foot,¬ B'.U b) (hp:∀cs,a≠.pin cs) (hBH:∀k rows,a=.deep k rows→x.len≠0→∀f,B'.H x.b=some f→x.hd=f):RO S' h' g' m' L' B' x a:=by
 cases H with
 | box cs b vs e fr hb' hfr hl h1 hin hB hS=>
  obtain ⟨e1,e2⟩:=hb b (by simp) hS
  exact .box cs b vs e fr (by rw [e1];exact hb') hfr hl h1 (fun i hi=>(hin i hi).step st) (hU b (by simp)) e2
 | nil k b own oa hk=>exact .nil k b own oa hk
 | dnil k b oa hk=>exact .dnil k b oa hk
 | deep k rows b cap cs e fr fps hb' hfr hk hrow hcap hmax hsz hfl hin hhd hB hH=>
  have q:∀b'∈b::fps.flatten,h' b'=h b'∧¬ S' b':=fun b' hx=>hb b' hx (hB b' hx).2
  exact .deep k rows b cap cs e fr fps (by rw [(q b (by simp)).1];exact hb') hfr hk hrow hcap hmax hsz hfl
   (fun i hi=>(hin i hi).mono fun b' hx=>(q b' (List.mem_cons_of_mem _ (mem_flatten_of_getD hx))).1) hhd (fun b' hx=>⟨hU b' hx,(q b' hx).2⟩) (hBH k rows rfl)
 | arr k rows own b cap cs e fr fps hb' hfr hk hrow hcap hmax hsz hin hown hno hB hS=>
  obtain ⟨e1,e2⟩:=hb b (by simp) hS
  refine .arr k rows own b cap cs e fr fps (by rw [e1];exact hb') hfr hk hrow hcap hmax hsz (fun i hi=>(hin i hi).mono st.s st.h) (fun ho=>?_) hno (hU b (by simp)) e2
  obtain ⟨f1,f2,f3⟩:=hown ho
  exact ⟨f1,fun i hi=>(f2 i hi).mono fun b' hb'=>st.h b' (f3 b' (mem_flatten_of_getD hb')),fun b' hb'=>st.s b' (f3 b' hb')⟩
 | fro k rows v b hd hv=>exact .fro k rows v b (hd.mono st.s st.h) hv
 | mp l b es clock hb' he hB hS=>
  obtain ⟨e1,e2⟩:=hb b (by simp) hS
  exact .mp l b es clock (by rw [e1];exact hb') he (hU b (by simp)) e2
 | pin cs=>exact absurd rfl (hp cs)

theorem RO.same_box {G G':OG} {cs cs':List AV} (H:RO S h g m L B G (.box cs)) (H':RO S' h' g' m' L' B' G' (.box cs')) (hv:G'.v=G.v):same G' G:=by
 cases H with
 | box _ b=>
  cases H' with
  | box _ b'=>
   simp only [Value.pointer.injEq,Option.some.injEq,Addr.mk.injEq] at hv
   exact ⟨by simp [hv.1],fun _=>hv.1,rfl,rfl,fun _=>rfl⟩
theorem RO.same_arr {G G':OG} {k:Nat} {rows rows':List (List D)} {own own':Bool} (H:RO S h g m L B G (.arr k rows own)) (H':RO S' h' g' m' L' B' G' (.arr k rows' own')) (hv:G'.v=G.v):same G' G:=by
 cases H with
 | nil _ b own oa hk=>
  cases H' with
  | nil _ b' own' oa' hk'=>exact ⟨hv,fun h=>absurd rfl h,rfl,rfl,fun _=>rfl⟩
  | arr _ _ _ b' cap' cs' e' fr' fps'=>
   have hv0:=hv
   simp only [Value.slice.injEq] at hv
   exact ⟨hv0,fun h=>absurd rfl h,rfl,by simpa using hv.2.1,fun _=>rfl⟩
 | arr _ _ _ b cap cs e fr fps=>
  cases H' with
  | nil _ b' own' oa' hk'=>
   have hv0:=hv
   simp only [Value.slice.injEq] at hv
   exact ⟨hv0,fun h=>absurd hv.2.1.symm h,rfl,hv.2.1,fun _=>rfl⟩
  | arr _ _ _ b' cap' cs' e' fr' fps'=>
   simp only [Value.slice.injEq,Option.some.injEq,Addr.mk.injEq] at hv
   obtain ⟨⟨h1,_⟩,h2,h3⟩:=hv
   exact ⟨by simp [h1,h2,h3],fun _=>h1,rfl,h2,fun _=>rfl⟩
theorem RO.same_deep {G G':OG} {k:Nat} {rows rows':List (List D)} (H:RO S h g m L B G (.deep k rows)) (H':RO S' h' g' m' L' B' G' (.deep k rows')) (hv:G'.v=G.v) (hH:G.len≠0→G.b∈G.foot→B'.H G.b=some G.hd):same G' G:=by
 cases H with
 | dnil _ b oa hk=>
  cases H' with
  | dnil _ b' oa' hk'=>exact ⟨hv,fun h=>absurd rfl h,rfl,rfl,fun h=>absurd rfl h⟩
  | deep _ _ b' cap' cs' e' fr' fps'=>
   have hv0:=hv
   simp only [Value.slice.injEq] at hv
   exact ⟨hv0,fun h=>absurd rfl h,rfl,by simpa using hv.2.1,fun h=>absurd rfl h⟩
 | deep _ _ b cap cs e fr fps=>
  cases H' with
  | dnil _ b' oa' hk'=>
   have hv0:=hv
   simp only [Value.slice.injEq] at hv
   exact ⟨hv0,fun h=>absurd hv.2.1.symm h,rfl,hv.2.1,fun h=>absurd hv.2.1.symm h⟩
  | deep _ _ b' cap' cs' e' fr' fps' hb1 hfr1 hk1 hrow1 hcap1 hmax1 hsz1 hfl1 hin1 hhd1 hB1 hH1=>
   simp only [Value.slice.injEq,Option.some.injEq,Addr.mk.injEq] at hv
   obtain ⟨⟨h1,_⟩,h2,h3⟩:=hv
   refine ⟨by simp [h1,h2,h3],fun _=>h1,rfl,h2,fun hl=>?_⟩
   refine hH1 (by rw [h2];exact hl) _ ?_
   rw [h1];exact hH hl (by simp)
end

/-- an object that is there is of its kind -/
theorem sameK_spec:∀{objs:List AO} {os:List (Option AO)},sameK objs os=true→∀i x,objs[i]?=some x→os.getD i none=none∨(∃cs cs',x=.box cs∧os.getD i none=some (.box cs'))∨(∃k rows own rows' own',x=.arr k rows own∧os.getD i none=some (.arr k rows' own'))∨∃k rows rows',x=.deep k rows∧os.getD i none=some (.deep k rows')
 | [],_,_,i,x,hx=>by simp at hx
 | a::r,[],h,i,x,hx=>by cases a <;> simp [sameK] at h
 | a::r,o::os,h,i,x,hx=>by
  have rest:sameK r os=true:=by
   cases a with
   | box cs=>cases o with
    | none=>exact h
    | some o=>cases o with
     | box cs'=>exact h
     | _=>simp [sameK] at h
   | arr k rows own=>cases o with
    | none=>exact h
    | some o=>cases o with
     | arr k' rows' own'=>
      simp only [sameK] at h
      split at h
      ·exact h
      ·simp at h
     | _=>simp [sameK] at h
   | deep k rows=>cases o with
    | none=>simp [sameK] at h
    | some o=>cases o with
     | deep k' rows'=>
      simp only [sameK] at h
      split at h
      ·exact h
      ·simp at h
     | _=>simp [sameK] at h
   | fro=>simp [sameK] at h
   | mp=>simp [sameK] at h
   | pin=>simp [sameK] at h
  cases i with
  | succ i=>simpa using sameK_spec rest i x (by simpa using hx)
  | zero=>
   simp at hx;subst hx
   cases a with
   | box cs=>cases o with
    | none=>left;simp
    | some o=>cases o with
     | box cs'=>right;left;exact ⟨cs,cs',rfl,by simp⟩
     | _=>simp [sameK] at h
   | arr k rows own=>cases o with
    | none=>left;simp
    | some o=>cases o with
     | arr k' rows' own'=>
      simp only [sameK] at h
      split at h
      ·rename_i e
       have:=Nat.eq_of_beq_eq_true e
       subst this
       right;right;left;exact ⟨k,rows,own,rows',own',rfl,by simp⟩
      ·simp at h
     | _=>simp [sameK] at h
   | deep k rows=>cases o with
    | none=>simp [sameK] at h
    | some o=>cases o with
     | deep k' rows'=>
      simp only [sameK] at h
      split at h
      ·rename_i e
       have:=Nat.eq_of_beq_eq_true e
       subst this
       right;right;right;exact ⟨k,rows,rows',rfl,by simp⟩
      ·simp at h
     | _=>simp [sameK] at h
   | fro=>simp [sameK] at h
   | mp=>simp [sameK] at h
   | pin=>simp [sameK] at h
theorem noDeep_get:∀{os:List (Option AO)},noDeep os=true→∀i k rows,os.getD i none≠some (.deep k rows)
 | [],_,i,k,rows=>by simp
 | a::r,h,i,k,rows=>by
  have h':noDeep r=true∧∀k rows,a≠some (.deep k rows):=by
   unfold noDeep at h
   split at h
   ·rename_i e;simp at e
   ·simp at h
   ·rename_i hne e
    simp only [List.cons.injEq] at e
    obtain ⟨rfl,rfl⟩:=e
    exact ⟨h,fun k rows e=>hne k rows e⟩
  cases i with
  | zero=>simpa using h'.2 k rows
  | succ i=>simpa using noDeep_get h'.1 i k rows
theorem sameK_kind:∀{objs:List AO} {os:List (Option AO)},sameK objs os=true→∀i k rows,os.getD i none=some (.deep k rows)→∃k0 rows0,objs[i]?=some (.deep k0 rows0)
 | [],os,h,i,k,rows,hd=>absurd hd (noDeep_get (by simpa [sameK] using h) i k rows)
 | a::r,[],h,i,k,rows,hd=>by simp at hd
 | a::r,o::os,h,0,k,rows,hd=>by
  simp at hd;subst hd
  cases a with
  | deep k0 rows0=>exact ⟨k0,rows0,by simp⟩
  | _=>simp [sameK] at h
 | a::r,o::os,h,i+1,k,rows,hd=>by
  have rest:sameK r os=true:=by
   cases a with
   | box cs=>cases o with
    | none=>exact h
    | some o=>cases o with
     | box cs'=>exact h
     | _=>simp [sameK] at h
   | arr k rows own=>cases o with
    | none=>exact h
    | some o=>cases o with
     | arr k' rows' own'=>
      simp only [sameK] at h
      split at h
      ·exact h
      ·simp at h
     | _=>simp [sameK] at h
   | deep k rows=>cases o with
    | none=>simp [sameK] at h
    | some o=>cases o with
     | deep k' rows'=>
      simp only [sameK] at h
      split at h
      ·exact h
      ·simp at h
     | _=>simp [sameK] at h
   | fro=>simp [sameK] at h
   | mp=>simp [sameK] at h
   | pin=>simp [sameK] at h
  simpa using sameK_kind rest i k rows (by simpa using hd)
theorem sameK_len:∀{objs:List AO} {os:List (Option AO)},sameK objs os=true→objs.length≤os.length∧∀x∈objs,∀cs,x≠.pin cs
 | [],_,_=>by simp
 | a::r,[],h=>by cases a <;> simp [sameK] at h
 | a::r,o::os,h=>by
  have rest:sameK r os=true:=by
   cases a with
   | box cs=>cases o with
    | none=>exact h
    | some o=>cases o with
     | box cs'=>exact h
     | _=>simp [sameK] at h
   | arr k rows own=>cases o with
    | none=>exact h
    | some o=>cases o with
     | arr k' rows' own'=>
      simp only [sameK] at h
      split at h
      ·exact h
      ·simp at h
     | _=>simp [sameK] at h
   | deep k rows=>cases o with
    | none=>simp [sameK] at h
    | some o=>cases o with
     | deep k' rows'=>
      simp only [sameK] at h
      split at h
      ·exact h
      ·simp at h
     | _=>simp [sameK] at h
   | fro=>simp [sameK] at h
   | mp=>simp [sameK] at h
   | pin=>simp [sameK] at h
  obtain ⟨e1,e2⟩:=sameK_len rest
  refine ⟨by simpa using e1,fun x hx=>?_⟩
  rcases List.mem_cons.1 hx with rfl | hx
  ·intro cs e;subst e;simp [sameK] at h
  ·exact e2 x hx

section
variable {P:Program} {T:Tab} {C:Contract} {B:Fr} {N:Nat} {L:Nat→Prop} {w₀ w:World} {s:St} {a:Act} {S:Nat→Prop} {g:Nat→OG} {Q:Exit→Act→World→Prop}

/-- the objects at the end, under names of their own -/
theorem Rel.canonE (R:Rel B N w₀ L s a w S g []) (γ:List Value) (H:Nat→Option (Nat→Value)) {l:List Nat} {os:List (Option AO)} (hn:l.Nodup) (hos:mapOs (find s.mem) (idx l) l=some os) (hHs:∀b,H b≠none→b<w.heap.size)
  (hBH:∀i k rows,i<os.length→os.getD i none=some (.deep k rows)→(g (l.getD i 0)).len≠0→∀f,H (g (l.getD i 0)).b=some f→(g (l.getD i 0)).hd=f):
  l.length=os.length∧(∀i,i<os.length→find (lay 0 os) i≠none→find s.mem (l.getD i 0)≠none)∧Rel ⟨B.U,B.S0,γ,H,B.I⟩ 0 w₀ (·<os.length) ⟨[],lay 0 os,os.length⟩ noAct w S (fun i=>g (l.getD i 0)) []∧
  ∀{av av':AV} {v:Value},RV S (hp w) g (find s.mem) L av v→mapV (idx l) av=some av'→RV S (hp w) (fun i=>g (l.getD i 0)) (find (lay 0 os)) (·<os.length) av' v:=by
 obtain ⟨hlen,hget⟩:=mapOs_get hos
 have hlen:l.length=os.length:=hlen.symm
 have fl:∀i,i<os.length→find (lay 0 os) i=os.getD i none:=by
  intro i hi
  rw [find_lay,if_pos ⟨by omega,by omega⟩];rfl
 have fl':∀i,¬ i<os.length→find (lay 0 os) i=none:=by
  intro i hi
  rw [find_lay,if_neg (by omega)]
 have lt:∀i,find (lay 0 os) i≠none→i<os.length:=fun i h=>Classical.byContradiction fun hc=>h (fl' i hc)
 have get:∀i,find (lay 0 os) i≠none→∃x x',find s.mem (l.getD i 0)=some x∧mapAO (idx l) x=some x'∧find (lay 0 os) i=some x':=by
  intro i h
  have hi:=lt i h
  rw [fl i hi] at h ⊢
  rcases hget i (by omega) with ⟨_,h2⟩ | ⟨x,x',h1,h2,h3⟩
  ·exact absurd h2 h
  ·exact ⟨x,x',h1,h2,h3⟩
 have live:∀i,find (lay 0 os) i≠none→find s.mem (l.getD i 0)≠none:=fun i hi=>by
  obtain ⟨x,_,h,_⟩:=get i hi;rw [h];simp
 have get_inj:∀i j,i<l.length→j<l.length→l.getD i 0=l.getD j 0→i=j:=fun i j hi hj h=>by
  rw [List.getD_eq_getElem?_getD,List.getElem?_eq_getElem hi,List.getD_eq_getElem?_getD,List.getElem?_eq_getElem hj] at h
  exact (List.getElem_inj hn).1 (by simpa using h)
 have hρ:∀o o',idx l o=some o'→L o→o'<os.length∧(find (lay 0 os) o'≠none→find s.mem o≠none∧same (g (l.getD o' 0)) (g o)):=by
  intro o o' h ho
  have h:=idx_some h
  have hi:o'<l.length:=(List.getElem?_eq_some_iff.1 h).1
  have e:l.getD o' 0=o:=by rw [List.getD_eq_getElem?_getD,h];rfl
  exact ⟨by omega,fun hm=>⟨by rw [← e];exact live o' hm,by rw [e];exact same.refl _⟩⟩
 refine ⟨hlen,fun i _ h=>live i h,?_,fun hv e=>hv.ren (fun _ h=>h) (fun _ _=>rfl) hρ e⟩
 refine { below:=⟨R.below.os,R.below.tape,R.below.output,R.below.size,R.below.block⟩,hB:=R.hB,hH:=hHs,inv:=R.inv,defers:=rfl,size:=rfl,env:=fun t=>.any _,obj:=fun i ao h=>?_,new:=fun i h=>fl' i h,nodup:=fun i h=>R.nodup _ (live i h),bound:=fun i h b hb=>R.bound _ (live i h) b hb,apart:=fun i j hij hi hj b hb hb'=>?_,still:=R.still,sub:=R.sub,xs:=⟨by simp,by simp,by simp⟩ }
 ·obtain ⟨x,x',h1,h2,h3⟩:=get i (by rw [h];simp)
  rw [h3] at h;simp at h;subst h
  exact (R.obj _ x h1).ren (fun _ h=>h) (fun _ _=>rfl) hρ h2 (fun _ _ hs=>⟨rfl,hs⟩) (fun b hb=>(R.bound _ (by rw [h1];simp) b hb).1) fun k rows ed=>by
   subst ed
   simp [mapAO] at h2;subst h2
   have hi:=lt i (by rw [h3];simp)
   exact hBH i k rows hi (by rw [← fl i hi];exact h3)
 ·have h1:=lt i hi
  have h2:=lt j hj
  exact R.apart _ _ (fun e=>hij (get_inj i j (by omega) (by omega) e)) (live i hi) (live j hj) b hb hb'

theorem turn_of_body (hT:TOk P T) (hm:P.follows .mixedOrders=true) {F:FuncId} {fn:Func} {args:List AV} {objs:List AO} {objs':List (Option AO)} {rv:AV} (hf:P.funcs[F]?=some fn) (hok:fnOk fn=true) (hk:sameK objs objs'=true)
  (h:bodyT (Con P) T (draw (Con P) T) fn args objs (fun os v=>os=objs'∧v=rv)):Turn P F args objs objs' rv:=by
 unfold fnOk at hok
 unfold bodyT at h
 obtain ⟨hkl,hkp⟩:=sameK_len hk
 cases hb:fn.body with
 | none=>rw [hb] at hok;simp at hok
 | some c=>
  rw [hb] at h hok
  simp only [Bool.and_eq_true,Bool.not_eq_true'] at hok
  have hkind:∀i k rows,objs'.getD i none=some (.deep k rows)→∃k0 rows0,objs[i]?=some (.deep k0 rows0):=sameK_kind hk
  refine ⟨⟨fn,hf,hok.1,by rw [hb];rfl⟩,hkl,hkind,fun w vs B S g R0 hP hl hin=>?_⟩
  refine calls_of_wp hf hb ?_
  let HH:Nat→Option (Nat→Value):=fun b=>open Classical in if h:∃i,i<objs.length∧find (lay 0 (objs.map some)) i≠none∧(g i).b=b∧b∈(g i).foot then some (g (Classical.choose h)).hd else none
  have HHi:∀i,i<objs.length→find (lay 0 (objs.map some)) i≠none→(g i).b∈(g i).foot→HH (g i).b=some (g i).hd:=by
   intro i hi hf hm
   have hex:∃i',i'<objs.length∧find (lay 0 (objs.map some)) i'≠none∧(g i').b=(g i).b∧(g i).b∈(g i').foot:=⟨i,hi,hf,rfl,hm⟩
   have hc:=Classical.choose_spec hex
   have e:Classical.choose hex=i:=Classical.byContradiction fun hne=>R0.apart _ i hne hc.2.1 hf _ hc.2.2.2 hm
   simp only [HH,dif_pos hex,e]
  have HHs:∀b,HH b≠none→b<w.heap.size:=by
   intro b hb
   by_cases hex:∃i',i'<objs.length∧find (lay 0 (objs.map some)) i'≠none∧(g i').b=b∧b∈(g i').foot
   ·obtain ⟨i,_,h2,h3,h4⟩:=hex
    exact (R0.bound i h2 b h4).2
   ·simp only [HH,dif_neg hex] at hb;exact absurd rfl hb
  let BB:Fr:=⟨B.U,B.S0,(List.range objs.length).map fun i=>(g i).v,HH,B.I⟩
  let a:Act:={ tmps:=(⟨vs⟩:Array Value)++Array.replicate (fn.ntmps - (⟨vs⟩:Array Value).size) undef,defers:=[] }
  have hsz:fn.ntmps≤a.tmps.size:=by
   have:a.tmps.size=vs.length+(fn.ntmps - vs.length):=by simp [a]
   omega
  let n:=objs.length
  let g1:Nat→OG:=fun i=>if i<n then g i else ⟨undef,0,0,[],0,noHd⟩
  have fl:∀i,find (lay 0 (objs.map some)) i=objs[i]?:=by
   intro i
   rw [find_lay]
   by_cases h:i<objs.length
   ·rw [if_pos ⟨by omega,by simpa using h⟩,List.getD_eq_getElem?_getD,List.getElem?_eq_getElem (by simpa using h)];simp [h]
   ·rw [if_neg (by simp;omega),List.getElem?_eq_none (by omega)]
  let mem1:=(startT args objs).mem
  have f1:∀i,i<n→find mem1 i=objs[i]?:=fun i hi=>by
   show find ((objs.length,some (.pin (pinsOf 0 objs)))::lay 0 (objs.map some)) i=_
   rw [find_cons,if_neg (by omega),fl]
  have fn':find mem1 n=some (.pin (pinsOf 0 objs)):=by
   show find ((objs.length,some (.pin (pinsOf 0 objs)))::lay 0 (objs.map some)) objs.length=_
   rw [find_cons,if_pos rfl]
  have f2:∀i,n<i→find mem1 i=none:=fun i hi=>by
   show find ((objs.length,some (.pin (pinsOf 0 objs)))::lay 0 (objs.map some)) i=_
   rw [find_cons,if_neg (by omega),fl]
   exact List.getElem?_eq_none (by omega)
  have g1i:∀i,i<n→g1 i=g i:=fun i hi=>if_pos hi
  have st:Step S S (hp w) (hp w) g g1 (find (lay 0 (objs.map some))) (find mem1) (·<objs.length) (·<objs.length+1):=
   ⟨fun _ h=>h,fun _ _=>rfl,fun i hi _=>by rw [g1i i hi];exact ⟨rfl,fun _=>rfl,rfl,rfl,fun _=>rfl⟩,fun i hi hm=>by rw [f1 i hi] at hm;rw [fl];exact hm,fun i hi=>Nat.lt_succ_of_lt hi⟩
  have lt:∀i,find mem1 i≠none→i<n∨i=n:=fun i h=>by
   rcases Nat.lt_trichotomy i n with h1 | h1 | h1
   ·exact .inl h1
   ·exact .inr h1
   ·exact absurd (f2 i h1) h
  have R:Rel BB a.tmps.size w (·<objs.length+1) (startT args objs) a w S g1 []:=
   { below:=Keep.refl _ _,hB:=R0.hB,hH:=HHs,inv:=R0.inv,defers:=rfl,size:=rfl,env:=fun t=>by
      show RV S (hp w) g1 (find mem1) (·<objs.length+1) (look (paramsA 0 args) t) (a.tmps.getD t undef)
      rw [look_paramsA]
      split
      ·rename_i ht
       have hlt:t<vs.length:=by omega
       have e:a.tmps.getD t undef=vs.getD t undef:=by
        simp [a,Array.getElem?_append_left,hlt]
       rw [e]
       exact (hin t (by omega)).step st
      ·exact .any _
     obj:=fun i ao hi=>by
      rcases lt i (by show find mem1 i≠none;rw [show find mem1 i=some ao from hi];simp) with h1 | rfl
      ·have hi:find mem1 i=some ao:=hi
       rw [f1 i h1] at hi
       rw [g1i i h1]
       exact (R0.obj i ao (by show find (lay 0 (objs.map some)) i=some ao;rw [fl];exact hi)).move st (fun _ _ hs=>⟨rfl,hs⟩) (fun b hb=>(R0.bound i (by show find (lay 0 (objs.map some)) i≠none;rw [fl,hi];simp) b hb).1) (hkp ao (List.mem_of_getElem? hi)) (fun k rows ed hl0 f hf=>by
        subst ed
        have ho:=R0.obj i (.deep k rows) (by show find (lay 0 (objs.map some)) i=some _;rw [fl];exact hi)
        have hm:(g i).b∈(g i).foot:=by
         generalize g i=G at ho hl0
         cases ho with
         | dnil=>exact absurd rfl hl0
         | deep=>simp
        have:=HHi i h1 (by rw [fl,hi];simp) hm
        have hf:HH (g i).b=some f:=hf
        rw [this] at hf;simpa using hf)
      ·have hi:find mem1 n=some ao:=hi
       rw [fn'] at hi;simp at hi;subst hi
       obtain ⟨p1,p2⟩:=pinsOf_get (objs:=objs) (n:=0)
       refine .pin _ _ (by simp [g1]) (by simp [BB,p1]) fun i hi=>?_
       rw [p1] at hi
       have eg:BB.γ.getD i undef=(g i).v:=by simp [BB,List.getD_eq_getElem?_getD,hi]
       rw [eg]
       have hobj:find mem1 i=some objs[i]:=by rw [f1 i hi,List.getElem?_eq_getElem hi]
       have ho:=R0.obj i objs[i] (by show find (lay 0 (objs.map some)) i=_;rw [fl,List.getElem?_eq_getElem hi])
       have hnp:∀cs,objs[i]≠.pin cs:=hkp _ (List.getElem_mem hi)
       rcases p2 i hi with ⟨e,cs,hcs⟩ | ⟨e,hne⟩
       ·rw [e,Nat.zero_add]
        rw [List.getElem?_eq_getElem hi] at hcs;simp at hcs
        rw [hcs] at ho
        refine .ptr i 0 0 _ (by show i<objs.length+1;omega) ?_ fun _=>?_
        ·generalize g i=G at ho;cases ho;rfl
        ·rw [g1i i hi];generalize g i=G at ho;cases ho;simp
       ·rw [e,Nat.zero_add]
        refine .sl i _ (by show i<objs.length+1;omega) ?_ fun _=>by rw [g1i i hi]
        rcases sameK_spec hk i objs[i] (by rw [List.getElem?_eq_getElem hi]) with h3 | ⟨cs,_,h3,_⟩ | ⟨k,rows,own,_,_,h3,_⟩ | ⟨k,rows,_,h3,_⟩
        ·generalize g i=G at ho
         generalize objs[i]=x at ho hnp
         cases ho with
         | box cs b=>rfl
         | nil=>rfl
         | arr=>rfl
         | dnil=>rfl
         | deep=>rfl
         | fro k rows v b hd hv=>exact hd.one
         | mp=>rfl
         | pin cs=>exact absurd rfl (hnp cs)
        ·exact absurd (by rw [List.getElem?_eq_getElem hi,h3]) (hne cs)
        ·rw [h3] at ho;generalize g i=G at ho;cases ho <;> rfl
        ·rw [h3] at ho;generalize g i=G at ho;cases ho <;> rfl
     new:=fun i hi=>f2 i (by have:¬ i<objs.length+1:=hi;show objs.length<i;omega)
     nodup:=fun i hi=>by
      rcases lt i hi with h1 | rfl
      ·rw [g1i i h1];exact R0.nodup i (by show find (lay 0 (objs.map some)) i≠none;rw [fl,← f1 i h1];exact hi)
      ·simp [g1]
     bound:=fun i hi b hb=>by
      rcases lt i hi with h1 | rfl
      ·rw [g1i i h1] at hb;exact R0.bound i (by show find (lay 0 (objs.map some)) i≠none;rw [fl,← f1 i h1];exact hi) b hb
      ·simp [g1] at hb
     apart:=fun i j hij hi hj b hb hb'=>by
      rcases lt i hi with h1 | rfl
      ·rcases lt j hj with h2 | rfl
       ·rw [g1i i h1] at hb;rw [g1i j h2] at hb'
        exact R0.apart i j hij (by show find (lay 0 (objs.map some)) i≠none;rw [fl,← f1 i h1];exact hi) (by show find (lay 0 (objs.map some)) j≠none;rw [fl,← f1 j h2];exact hj) b hb hb'
       ·simp [g1] at hb'
      ·simp [g1] at hb
     still:=R0.still,sub:=R0.sub,xs:=⟨by simp,by simp,by simp⟩ }
  refine run_sound (N:=a.tmps.size) hT (show BB.I P from hP) hm c (codeOk_mono hsz hok.2) ?_ R (fun _ h=>h) h
  intro e s a' w' S' g' L' R' hL hk'
  have fin:doneT T fn.results.toList s (fun os v=>os=objs'∧v=rv)→a'.defers=[]∧∃v,(results fn a'.tmps).run P w'=.ok v w'∧∃S' g',Rel B 0 w (·<objs'.length) ⟨[],lay 0 objs',objs'.length⟩ noAct w' S' g' []∧(∀i,i<objs.length→find (lay 0 objs') i≠none→same (g' i) (g i))∧RV S' (hp w') g' (find (lay 0 objs')) (·<objs'.length) rv v:=by
   intro hd
   refine ⟨R'.defers,?_⟩
   rw [doneT_eq] at hd
   split at hd
   ·rename_i rvs hrvs
    split at hd
    ·rename_i cs hcs
     split at hd
     ·rename_i l rv' os' hc
      obtain ⟨rfl,rfl⟩:=hd
      obtain ⟨vals,e1,e2,e3,e4⟩:=R'.resVs hT hrvs
      have run:(results fn a'.tmps).run P w'=.ok (if h:(⟨vals⟩:Array Value).size=1 then (⟨vals⟩:Array Value)[0] else .tuple ⟨vals⟩) w':=by
       rw [results_eq]
       have:(fn.results.mapM (readRes a'.tmps)).run P w'=.ok ⟨vals⟩ w':=by
        have er:fn.results=⟨fn.results.toList⟩:=rfl
        rw [er,List.mapM_toArray]
        simp [e1]
       rw [Sem.run_bind,this]
       rfl
      have hone:∃v,(results fn a'.tmps).run P w'=.ok v w'∧RV S' (hp w') g' (find s.mem) L' (oneV rvs) v:=by
       by_cases h1:vals.length=1
       ·obtain ⟨v,rfl⟩:∃v,vals=[v]:=by
         match vals,h1 with
         | [v],_=>exact ⟨v,rfl⟩
        obtain ⟨rv0,rfl⟩:∃v,rvs=[v]:=by
         match rvs,e2 with
         | [v],_=>exact ⟨v,rfl⟩
        refine ⟨v,by rw [run];simp,?_⟩
        simpa [oneV] using e4 0 (by simp)
       ·refine ⟨.tuple ⟨vals⟩,by rw [run,dif_neg (by show ¬ vals.length=1;exact h1)],?_⟩
        have:oneV rvs=.tup rvs:=by
         unfold oneV
         split
         ·simp at e2;exact absurd e2 h1
         ·rfl
        rw [this]
        exact .tup _ _ (by omega) fun i hi=>e4 i hi
      obtain ⟨v,hrun,hrv⟩:=hone
      refine ⟨v,hrun,?_⟩
      unfold canon at hc
      obtain ⟨t1,ht1⟩:=collL_pre [oneV rvs] (pinNames (find s.mem) s.next cs)
      obtain ⟨t2,ht2⟩:=collN_pre (m:=find s.mem) 24 0 (collL (pinNames (find s.mem) s.next cs) [oneV rvs])
      rw [ht2,ht1,List.append_assoc] at hc
      generalize t1++t2=t at hc
      unfold canonL at hc
      split at hc
      ·rename_i hnd
       split at hc
       ·rename_i rs hrs
        split at hc
        ·rename_i os hos
         simp only [Option.some.injEq,Prod.mk.injEq] at hc
         obtain ⟨rfl,rfl,rfl⟩:=hc
         obtain ⟨po,hpo⟩:=findPin_spec hcs
         have hro:=R'.obj po _ hpo
         obtain ⟨q1,q2⟩:=pinNames_get (m:=find s.mem) (cs:=cs) (nx:=s.next)
         obtain ⟨hlen,hlive,R2,tr⟩:=R'.canonE B.γ HH (noDup_nodup hnd) hos (fun b hb=>Nat.lt_of_lt_of_le (HHs b hb) R'.below.size) (fun i k rows hi hd hl f hf=>by
          have hq:=(mapOs_get hos).1
          rcases (mapOs_get hos).2 i (by omega) with ⟨_,p2⟩ | ⟨y,y',p1,p2,p3⟩
          ·rw [p2] at hd;simp at hd
          ·rw [hd] at p3;simp at p3;subst p3
           have hy:∃k1 rows1,y=.deep k1 rows1:=by
            cases y with
            | deep k1 rows1=>exact ⟨k1,rows1,rfl⟩
            | box cs=>simp only [mapAO] at p2;split at p2 <;> simp at p2
            | _=>simp [mapAO] at p2
           obtain ⟨k1,rows1,rfl⟩:=hy
           have ho1:=R'.obj _ _ p1
           generalize g' _=G0 at ho1 hl hf ⊢
           cases ho1 with
           | dnil=>exact absurd rfl hl
           | deep _ _ _ _ _ _ _ _ _ _ _ _ _ _ _ _ _ _ _ hH1=>exact hH1 hl f hf)
         have hsame:∀i,i<objs.length→find (lay 0 os) i≠none→same (g' ((pinNames (find s.mem) s.next cs++t).getD i 0)) (g i):=by
          intro i hi hne
          generalize g' po=G at hro
          cases hro with
          | pin _ _ hf hγ hpin=>
           have hcsl:cs.length=objs.length:=by rw [← hγ];simp [BB]
           have hli:(pinNames (find s.mem) s.next cs++t).getD i 0=(pinNames (find s.mem) s.next cs).getD i 0:=by
            rw [getD_append,if_pos (by omega)]
           have hio:i<os.length:=Nat.lt_of_lt_of_le hi hkl
           have hlv:=hlive i hio hne
           rw [hli] at hlv ⊢
           have hγi:BB.γ.getD i undef=(g i).v:=by simp [BB,List.getD_eq_getElem?_getD,hi]
           rcases q2 i (by omega) with ⟨o,h1,h2,h3⟩ | h1
           ·rw [h2] at hlv ⊢
            have hp':=hpin i (by omega)
            rw [hγi] at hp'
            have ho0:=R0.obj i objs[i] (by show find (lay 0 (objs.map some)) i=_;rw [fl,List.getElem?_eq_getElem hi])
            have kindR:=R2.obj i
            have hos_i:find (lay 0 os) i=os.getD i none:=by rw [find_lay,if_pos ⟨by omega,by omega⟩];rfl
            simp only [hli,h2] at kindR
            have hv:(g' o).v=(g i).v:=by
             rcases h3 with h3 | h3
             ·rw [h3] at hp'
              cases hp' with
              | sl _ _ ho h1' hv=>exact (hv h1).symm
             ·rw [h3] at hp'
              cases hp' with
              | ptr _ _ _ _ ho h1' hv=>
               obtain ⟨hv,hlt⟩:=hv h1
               rw [hv]
               rcases sameK_spec hk i objs[i] (by rw [List.getElem?_eq_getElem hi]) with h4 | ⟨_,cs',_,h4⟩ | ⟨k,rows,own,rows',own',h4,h5⟩ | ⟨k,rows,rows',h4,h5⟩
               ·rw [← hos_i] at h4;exact absurd h4 hne
               ·have:=kindR _ (by show find (lay 0 os) i=_;rw [hos_i];exact h4)
                generalize g' o=G' at this
                cases this;simp
               ·rw [h4] at ho0
                generalize g i=G0 at ho0 hv
                cases ho0 <;> simp at hv
               ·rw [h4] at ho0
                generalize g i=G0 at ho0 hv
                cases ho0 <;> simp at hv
            rcases sameK_spec hk i objs[i] (by rw [List.getElem?_eq_getElem hi]) with h4 | ⟨cs0,cs',h4,h5⟩ | ⟨k,rows,own,rows',own',h4,h5⟩ | ⟨k,rows,rows',h4,h5⟩
            ·rw [← hos_i] at h4;exact absurd h4 hne
            ·rw [h4] at ho0
             exact ho0.same_box (kindR _ (by show find (lay 0 os) i=_;rw [hos_i];exact h5)) hv
            ·rw [h4] at ho0
             exact ho0.same_arr (kindR _ (by show find (lay 0 os) i=_;rw [hos_i];exact h5)) hv
            ·rw [h4] at ho0
             exact ho0.same_deep (kindR _ (by show find (lay 0 os) i=_;rw [hos_i];exact h5)) hv (fun _ hm=>HHi i hi (by rw [fl,List.getElem?_eq_getElem hi];simp) hm)
           ·exact absurd (R'.new _ (fun hl=>by have:=hL _ hl;omega)) hlv
         obtain ⟨_,_,R3,_⟩:=R'.canonE B.γ B.H (noDup_nodup hnd) hos (fun b hb=>Nat.lt_of_lt_of_le (R0.hH b hb) R'.below.size) (fun i k rows hi hd hl f hf=>by
          obtain ⟨k0,rows0,hk0⟩:=hkind i k rows hd
          have hio:i<objs.length:=(List.getElem?_eq_some_iff.1 hk0).1
          obtain ⟨_,c2,_,c4,c5⟩:=hsame i hio (by rw [find_lay,if_pos ⟨by omega,by omega⟩];show os.getD i none≠none;rw [hd];simp)
          have hl1:(g i).len≠0:=by rw [← c4];exact hl
          rw [c5 hl1];rw [c2 hl1] at hf
          have ho:=R0.obj i (.deep k0 rows0) (by show find (lay 0 (objs.map some)) i=some _;rw [fl];exact hk0)
          generalize g i=G0 at ho hl1 hf
          cases ho with
          | dnil=>exact absurd rfl hl1
          | deep _ _ _ _ _ _ _ _ _ _ _ _ _ _ _ _ _ _ _ hH1=>exact hH1 hl1 f hf)
         refine ⟨S',_,R3,hsame,?_⟩
         ·obtain ⟨m1,m2⟩:=mapL_get hrs
          have:=m2 0 (by simp)
          simp only [List.getD_cons_zero] at this
          exact tr hrv this
        ·simp at hc
       ·simp at hc
      ·simp at hc
     ·exact hd.elim
    ·exact hd.elim
   ·exact hd.elim
  cases e with
  | normal=>exact fin hk'
  | ret=>exact fin hk'
  | exit i=>exact hk'.elim

end

end Go.Av
