/- ABSTRACT VALUES: calls that turn objects; the caller's side. -/
import Derived.Test.YtniibgdokfnomaaGreatAvO
namespace Go.Av
open Go Go.RowKit
set_option linter.unusedSimpArgs false
set_option linter.unusedVariables false

/-- the same place -/
def same (G' G:OG):Prop:=G'.v=G.v∧(G.len≠0→G'.b=G.b)∧G'.k=G.k∧G'.len=G.len∧(G.len≠0→G'.hd=G.hd)

theorem same.refl (G:OG):same G G:=⟨rfl,fun _=>rfl,rfl,rfl,fun _=>rfl⟩

def lay:Nat→List (Option AO)→List (Nat×Option AO)
 | _,[]=>[]
 | n,a::r=>(n,a)::lay (n+1) r

theorem find_lay:∀{l:List (Option AO)} {n x:Nat},find (lay n l) x=if n≤x∧x<n+l.length then l.getD (x - n) none else none
 | [],n,x=>by simp [lay,find]
 | a::r,n,x=>by
  simp only [lay,find_cons]
  by_cases h:n=x
  ·subst h;rw [if_pos rfl,if_pos ⟨by omega,by simp⟩];simp
  ·rw [if_neg h,find_lay]
   by_cases h':n+1≤x∧x<n+1+r.length
   ·rw [if_pos h',if_pos ⟨by omega,by simp only [List.length_cons];omega⟩]
    have e:x - n=(x - (n+1))+1:=by omega
    rw [e,List.getD_cons_succ]
   ·rw [if_neg h',if_neg (by simp only [List.length_cons];omega)]

def noAct:Act:={ tmps:=#[],defers:=[] }

/-- WHAT A FUNCTION DOES WITH OBJECTS: the arguments name objects 0, 1 ..; behind the call they are as told, each at its place; what comes back names them, or new ones behind them. -/
structure Turn (P:Program) (F:FuncId) (args:List AV) (objs:List AO) (objs':List (Option AO)) (rv:AV):Prop where
 fn:∃fn,P.funcs[F]?=some fn∧(fn.name == "runtime.NumGoroutine")=false∧fn.body.isNone=false
 len:objs.length≤objs'.length
 kind:∀i k rows,objs'.getD i none=some (.deep k rows)→∃k0 rows0,objs[i]?=some (.deep k0 rows0)
 calls:∀(w:World) (vs:List Value) (B:Fr) (S:Nat→Prop) (g:Nat→OG),Rel B 0 w (·<objs.length) ⟨[],lay 0 (objs.map some),objs.length⟩ noAct w S g []→B.I P→vs.length=args.length→
  (∀i,i<args.length→RV S (hp w) g (find (lay 0 (objs.map some))) (·<objs.length) (args.getD i .any) (vs.getD i undef))→
  Calls P F ⟨vs⟩ w fun
   | .returned v,w'=>∃S' g',Rel B 0 w (·<objs'.length) ⟨[],lay 0 objs',objs'.length⟩ noAct w' S' g' []∧(∀i,i<objs.length→find (lay 0 objs') i≠none→same (g' i) (g i))∧RV S' (hp w') g' (find (lay 0 objs')) (·<objs'.length) rv v
   | _,_=>False

/-- the contracts of a program's functions -/
def Con (P:Program):Contract:=⟨Pure P,Turn P⟩

theorem idx_some:∀{l:List Nat} {o i:Nat},idx l o=some i→l[i]?=some o
 | [],o,i,h=>by simp [idx] at h
 | y::r,o,i,h=>by
  simp only [idx] at h
  split at h
  ·rename_i e;simp at h;subst h;simp [Nat.eq_of_beq_eq_true e]
  ·split at h
   ·rename_i j hj;simp at h;subst h;simpa using idx_some hj
   ·simp at h

theorem mapL_get {ρ:Nat→Option Nat}:∀{cs cs':List AV},mapL ρ cs=some cs'→cs'.length=cs.length∧∀i,i<cs.length→mapV ρ (cs.getD i .any)=some (cs'.getD i .any)
 | [],cs',h=>by simp [mapL] at h;subst h;simp
 | c::cs,cs',h=>by
  simp only [mapL] at h
  split at h
  ·rename_i c' hc
   split at h
   ·rename_i cs1 hcs
    simp at h;subst h
    obtain ⟨e1,e2⟩:=mapL_get hcs
    refine ⟨by simp [e1],fun i hi=>?_⟩
    cases i with
    | zero=>simpa using hc
    | succ i=>simpa using e2 i (by simpa using hi)
   ·simp at h
  ·simp at h

section
variable {S S1:Nat→Prop} {h h1:Nat→Option Obj} {g g1:Nat→OG} {m m1:Nat→Option AO} {L L1:Nat→Prop}

/-- under other names -/
theorem RV.ren {ρ:Nat→Option Nat} (hs:∀b,S b→S1 b) (hh:∀b,S b→h1 b=h b) (hρ:∀o o',ρ o=some o'→L o→L1 o'∧(m1 o'≠none→m o≠none∧same (g1 o') (g o))) {a:AV} {v:Value} (H:RV S h g m L a v):
  ∀{a':AV},mapV ρ a=some a'→RV S1 h1 g1 m1 L1 a' v:=by
 induction H with
 | any v=>intro a' e;simp [mapV] at e;subst e;exact .any v
 | nil k=>intro a' e;simp [mapV] at e;subst e;exact .nil k
 | d x v hd=>intro a' e;simp [mapV] at e;subst e;exact .d x v (hd.mono hs hh)
 | dp row j b off cs ty fr hS hb hfit hin=>
  intro a' e;simp [mapV] at e;subst e
  exact .dp row j b off cs ty fr (hs b hS) (by rw [hh b hS];exact hb) hfit fun i hi=>(hin i hi).mono hs hh
 | ptr o i j v ho h1 hv=>
  intro a' e;simp only [mapV] at e
  split at e
  ·rename_i o' he
   simp at e;subst e
   obtain ⟨q1,q2⟩:=hρ o o' he ho
   refine .ptr o' i j v q1 h1 fun hm=>?_
   obtain ⟨p1,_,p2,p3,p4,_⟩:=q2 hm
   obtain ⟨hv,hi⟩:=hv p1
   rw [p2 (by omega),p3,p4];exact ⟨hv,hi⟩
  ·simp at e
 | sl o v ho h1 hv=>
  intro a' e;simp only [mapV] at e
  split at e
  ·rename_i o' he
   simp at e;subst e
   obtain ⟨q1,q2⟩:=hρ o o' he ho
   refine .sl o' v q1 h1 fun hm=>?_
   obtain ⟨p1,p2,_⟩:=q2 hm
   rw [p2];exact hv p1
  ·simp at e
 | sub o lo n v ho h1 hv=>
  intro a' e;simp only [mapV] at e
  split at e
  ·rename_i o' he
   simp at e;subst e
   obtain ⟨q1,q2⟩:=hρ o o' he ho
   refine .sub o' lo n v q1 h1 fun hm=>?_
   obtain ⟨p1,_,p2,p3,p4,_⟩:=q2 hm
   obtain ⟨hle,oa,cap,hv,hn,ha⟩:=hv p1
   rw [p3,p4]
   refine ⟨hle,oa,cap,hv,hn,ha.elim .inl fun ha=>?_⟩
   by_cases h0:n=0
   ·exact .inl h0
   ·rw [p2 (by omega)];exact .inr ha
  ·simp at e
 | cel=>intro a' e;simp [mapV] at e
 | agg cs vs hl h1 hin ih=>
  intro a' e;simp only [mapV] at e
  split at e
  ·rename_i cs' he
   simp at e;subst e
   obtain ⟨q1,q2⟩:=mapL_get he
   exact .agg cs' vs (by omega) h1 fun i hi=>ih i (by omega) (q2 i (by omega))
  ·simp at e
 | tup cs vs hl hin ih=>
  intro a' e;simp only [mapV] at e
  split at e
  ·rename_i cs' he
   simp at e;subst e
   obtain ⟨q1,q2⟩:=mapL_get he
   exact .tup cs' vs (by omega) fun i hi=>ih i (by omega) (q2 i (by omega))
  ·simp at e
 | fn f cs vs hl hin ih=>
  intro a' e;simp only [mapV] at e
  split at e
  ·rename_i cs' he
   simp at e;subst e
   obtain ⟨q1,q2⟩:=mapL_get he
   exact .fn f cs' vs (by omega) fun i hi=>ih i (by omega) (q2 i (by omega))
  ·simp at e

theorem RO.ren {ρ:Nat→Option Nat} {B B1:Fr} (hs:∀b,S b→S1 b) (hh:∀b,S b→h1 b=h b) (hρ:∀o o',ρ o=some o'→L o→L1 o'∧(m1 o'≠none→m o≠none∧same (g1 o') (g o))) {G:OG} {a a':AO} (H:RO S h g m L B G a)
  (e:mapAO ρ a=some a') (hb:∀b∈G.foot,¬ S b→h1 b=h b∧¬ S1 b) (hB1:∀b∈G.foot,¬ B1.U b) (hBH:∀k rows,a=.deep k rows→G.len≠0→∀f,B1.H G.b=some f→G.hd=f):RO S1 h1 g1 m1 L1 B1 G a':=by
 cases H with
 | box cs b vs ty fr hb' hfr hl h1 hin hB hS=>
  simp only [mapAO] at e
  split at e
  ·rename_i cs' he
   simp at e;subst e
   obtain ⟨q1,q2⟩:=mapL_get he
   obtain ⟨e1,e2⟩:=hb b (by simp) hS
   exact .box cs' b vs ty fr (by rw [e1];exact hb') hfr (by omega) h1 (fun i hi=>(hin i (by omega)).ren hs hh hρ (q2 i (by omega))) (hB1 b (by simp)) e2
  ·simp at e
 | nil k b own oa hk=>simp [mapAO] at e;subst e;exact .nil k b own oa hk
 | dnil k b oa hk=>simp [mapAO] at e;subst e;exact .dnil k b oa hk
 | deep k rows b cap cs ty fr fps hb' hfr hk hrow hcap hmax hsz hfl hin hhd hB hH=>
  simp [mapAO] at e;subst e
  have q:∀b'∈b::fps.flatten,h1 b'=h b'∧¬ S1 b':=fun b' hx=>hb b' hx (hB b' hx).2
  exact .deep k rows b cap cs ty fr fps (by rw [(q b (by simp)).1];exact hb') hfr hk hrow hcap hmax hsz hfl
   (fun i hi=>(hin i hi).mono fun b' hx=>(q b' (List.mem_cons_of_mem _ (mem_flatten_of_getD hx))).1) hhd (fun b' hx=>⟨hB1 b' hx,(q b' hx).2⟩) (hBH k rows rfl)
 | arr k rows own b cap cs ty fr fps hb' hfr hk hrow hcap hmax hsz hin hown hno hB hS=>
  simp [mapAO] at e;subst e
  obtain ⟨e1,e2⟩:=hb b (by simp) hS
  refine .arr k rows own b cap cs ty fr fps (by rw [e1];exact hb') hfr hk hrow hcap hmax hsz (fun i hi=>(hin i hi).mono hs hh) (fun ho=>?_) hno (hB1 b (by simp)) e2
  obtain ⟨f1,f2,f3⟩:=hown ho
  exact ⟨f1,fun i hi=>(f2 i hi).mono fun b' hb'=>hh b' (f3 b' (mem_flatten_of_getD hb')),fun b' hb'=>hs b' (f3 b' hb')⟩
 | fro k rows v b hd hv=>simp [mapAO] at e;subst e;exact .fro k rows v b (hd.mono hs hh) hv
 | mp l b es clock hb' he hB hS=>
  simp [mapAO] at e;subst e
  obtain ⟨e1,e2⟩:=hb b (by simp) hS
  exact .mp l b es clock (by rw [e1];exact hb') he (hB1 b (by simp)) e2
 | pin=>simp [mapAO] at e

/-- of a flat object no block is still -/
theorem RO.apart {B:Fr} {G:OG} {a:AO} (H:RO S h g m L B G a) (hf:∀k rows,a=.arr k rows true→flatRows rows) (hp:∀cs,a≠.pin cs):∀b∈G.foot,¬ S b:=by
 cases H with
 | box cs b vs ty fr hb' hfr hl h1 hin hB hS=>intro b' hb;simp at hb;subst hb;exact hS
 | nil k b own oa hk=>intro b' hb;simp at hb
 | dnil k b oa hk=>intro b' hb;simp at hb
 | deep k rows b cap cs ty fr fps hb' hfr hk hrow hcap hmax hsz hfl hin hhd hB hH=>exact fun b' hx=>(hB b' hx).2
 | arr k rows own b cap cs ty fr fps hb' hfr hk hrow hcap hmax hsz hin hown hno hB hS=>
  have:fps.flatten=[]:=by
   cases own with
   | false=>rw [hno rfl];rfl
   | true=>
    obtain ⟨f1,f2,f3⟩:=hown rfl
    have fl:=hf k rows rfl
    rw [List.flatten_eq_nil_iff]
    intro l hl
    obtain ⟨i,hi,rfl⟩:=List.mem_iff_getElem.1 hl
    have hi':i<rows.flatten.length:=by rw [flatten_length hrow];omega
    have q:=f2 i (by omega)
    rw [List.getD_eq_getElem?_getD,List.getElem?_eq_getElem hi',List.getD_eq_getElem?_getD (l:=fps),List.getElem?_eq_getElem hi] at q
    obtain ⟨r,hr,hx⟩:=List.mem_flatten.1 (List.getElem_mem hi')
    obtain ⟨v,hv⟩:=fl r hr _ hx
    simp only [Option.getD_some] at q
    rw [hv] at q
    generalize fps[i]=fp at q
    cases q;rfl
  intro b' hb
  rw [this] at hb
  simp at hb;subst hb;exact hS
 | fro k rows v b hd hv=>intro b' hb;simp at hb
 | mp l b es clock hb' he hB hS=>intro b' hb;simp at hb;subst hb;exact hS
 | pin cs=>exact absurd rfl (hp cs)

end

theorem allSome_get:∀{os:List (Option AO)} {objs:List AO},allSome os=some objs→os=objs.map some
 | [],objs,h=>by simp [allSome] at h;subst h;rfl
 | some a::r,objs,h=>by
  simp only [allSome] at h
  split at h
  ·rename_i rs hr;simp at h;subst h;rw [allSome_get hr];rfl
  ·simp at h
 | none::r,objs,h=>by simp [allSome] at h

theorem mapOs_get {m:Nat→Option AO} {ρ:Nat→Option Nat}:∀{l:List Nat} {os:List (Option AO)},mapOs m ρ l=some os→os.length=l.length∧∀i,i<l.length→(m (l.getD i 0)=none∧os.getD i none=none)∨∃a a',m (l.getD i 0)=some a∧mapAO ρ a=some a'∧os.getD i none=some a'
 | [],os,h=>by simp [mapOs] at h;subst h;simp
 | o::r,os,h=>by
  simp only [mapOs] at h
  split at h
  ·rename_i a ha
   split at h
   ·rename_i a' ha'
    split at h
    ·rename_i rs hr
     simp at h;subst h
     obtain ⟨e1,e2⟩:=mapOs_get hr
     refine ⟨by simp [e1],fun i hi=>?_⟩
     cases i with
     | zero=>exact .inr ⟨a,a',by simpa using ha,ha',by simp⟩
     | succ i=>simpa using e2 i (by simpa using hi)
    ·simp at h
   ·simp at h
  ·rename_i ha
   split at h
   ·rename_i rs hr
    simp at h;subst h
    obtain ⟨e1,e2⟩:=mapOs_get hr
    refine ⟨by simp [e1],fun i hi=>?_⟩
    cases i with
    | zero=>exact .inl ⟨by simpa using ha,by simp⟩
    | succ i=>simpa using e2 i (by simpa using hi)
   ·simp at h

theorem flatP_spec:∀{l:List AO},flatP l→∀k rows,AO.arr k rows true∈l→flatRows rows
 | [],_,k,rows,h=>by simp at h
 | a::r,hp,k,rows,h=>by
  have rest:flatP r:=by
   cases a with
   | box=>exact hp
   | arr k rows own=>cases own with
    | true=>exact hp.2
    | false=>exact hp
   | fro=>exact hp
   | mp=>exact hp
   | deep=>exact hp
   | pin=>exact hp
  rcases List.mem_cons.1 h with rfl | h
  ·exact hp.1
  ·exact flatP_spec rest k rows h

theorem noDup_nodup:∀{u:List Nat},noDup u=true→u.Nodup
 | [],_=>by simp
 | x::r,h=>by
  simp only [noDup] at h
  split at h
  ·rename_i e
   rw [List.nodup_cons]
   refine ⟨fun hx=>?_,noDup_nodup h⟩
   have:=List.all_eq_true.1 e x hx
   simp at this
  ·simp at h

/-- what the updates find -/
theorem upsB_find {ρ:Nat→Option Nat} {mm:List (Nat×Option AO)}:∀{l:List (Option AO)} {n:Nat} {u:Ups},upsB ρ n l=some u→(∀i j o,n≤i→n≤j→j<n+l.length→i<n+l.length→ρ i=some o→ρ j=some o→i=j)→
  (∀i,i<l.length→∃o,ρ (n+i)=some o∧((l.getD i none=none∧find (u++mm) o=none)∨∃a a',l.getD i none=some a∧mapAO ρ a=some a'∧find (u++mm) o=some a'))∧∀o,(∀i,i<l.length→ρ (n+i)≠some o)→find (u++mm) o=find mm o
 | [],n,u,h,_=>by simp [upsB] at h;subst h;simp
 | none::r,n,u,h,inj=>by
  simp only [upsB] at h
  split at h
  ·rename_i o ho
   split at h
   ·rename_i u' hu
    simp at h;subst h
    obtain ⟨q1,q2⟩:=upsB_find (mm:=mm) hu (fun i j o hi hj hj' hi'=>inj i j o (by omega) (by omega) (by simp only [List.length_cons];omega) (by simp only [List.length_cons];omega))
    refine ⟨fun i hi=>?_,fun o' ho'=>?_⟩
    ·cases i with
     | zero=>exact ⟨o,by simpa using ho,.inl ⟨by simp,by simp [find_cons]⟩⟩
     | succ i=>
      obtain ⟨o',e1,e2⟩:=q1 i (by simpa using hi)
      have hne:o≠o':=by
       rintro rfl
       have:=inj n (n+1+i) o (by omega) (by omega) (by simp only [List.length_cons] at hi ⊢;omega) (by simp only [List.length_cons];omega) ho e1
       omega
      refine ⟨o',by rw [← e1];congr 1;omega,?_⟩
      simp only [List.cons_append,find_cons,if_neg hne,List.getD_cons_succ]
      exact e2
    ·have h0:=ho' 0 (by simp)
     have hne:o≠o':=by rintro rfl;exact h0 (by simpa using ho)
     simp only [List.cons_append,find_cons,if_neg hne]
     exact q2 o' fun i hi=>by have:=ho' (i+1) (by simpa using hi);rwa [show n+(i+1)=n+1+i by omega] at this
   ·simp at h
  ·simp at h
 | some a::r,n,u,h,inj=>by
  simp only [upsB] at h
  split at h
  ·rename_i o ho
   split at h
   ·rename_i a' ha'
    split at h
    ·rename_i u' hu
     simp at h;subst h
     obtain ⟨q1,q2⟩:=upsB_find (mm:=mm) hu (fun i j o hi hj hj' hi'=>inj i j o (by omega) (by omega) (by simp only [List.length_cons];omega) (by simp only [List.length_cons];omega))
     refine ⟨fun i hi=>?_,fun o' ho'=>?_⟩
     ·cases i with
      | zero=>exact ⟨o,by simpa using ho,.inr ⟨a,a',by simp,ha',by simp [find_cons]⟩⟩
      | succ i=>
       obtain ⟨o',e1,e2⟩:=q1 i (by simpa using hi)
       have hne:o≠o':=by
        rintro rfl
        have:=inj n (n+1+i) o (by omega) (by omega) (by simp only [List.length_cons] at hi ⊢;omega) (by simp only [List.length_cons];omega) ho e1
        omega
       refine ⟨o',by rw [← e1];congr 1;omega,?_⟩
       simp only [List.cons_append,find_cons,if_neg hne,List.getD_cons_succ]
       exact e2
     ·have h0:=ho' 0 (by simp)
      have hne:o≠o':=by rintro rfl;exact h0 (by simpa using ho)
      simp only [List.cons_append,find_cons,if_neg hne]
      exact q2 o' fun i hi=>by have:=ho' (i+1) (by simpa using hi);rwa [show n+(i+1)=n+1+i by omega] at this
    ·simp at h
   ·simp at h
  ·simp at h

section
variable {P:Program} {T:Tab} {C:Contract} {B:Fr} {N:Nat} {L:Nat→Prop} {w₀ w:World} {s:St} {a:Act} {S:Nat→Prop} {g:Nat→OG} {id:Nat} {K:AV→Ups→Prop} {o:Oper} {Q:Exit→Act→World→Prop} {X:List Nat}

/-- a part of the objects, under names of their own -/
theorem Rel.part (R:Rel B N w₀ L s a w S g []) {l:List Nat} {objs:List AO} (hn:l.Nodup) (hos:mapOs (find s.mem) (idx l) l=some (objs.map some)) (hf:flatP objs):
  (∀i,i<l.length→find s.mem (l.getD i 0)≠none)∧l.length=objs.length∧(∀o∈l,∀b∈(g o).foot,¬ S b)∧
  Rel ⟨fun b=>b<w.heap.size∧∀o∈l,b∉(g o).foot,S,[],fun _=>none,B.I⟩ 0 w (·<objs.length) ⟨[],lay 0 (objs.map some),objs.length⟩ noAct w S (fun i=>g (l.getD i 0)) []∧
  ∀{av av':AV} {v:Value},RV S (hp w) g (find s.mem) L av v→mapV (idx l) av=some av'→RV S (hp w) (fun i=>g (l.getD i 0)) (find (lay 0 (objs.map some))) (·<objs.length) av' v:=by
 obtain ⟨hlen,hget⟩:=mapOs_get hos
 have hlen:l.length=objs.length:=by simpa using hlen.symm
 have get:∀i,i<l.length→∃x x',find s.mem (l.getD i 0)=some x∧mapAO (idx l) x=some x'∧objs[i]?=some x':=by
  intro i hi
  rcases hget i hi with ⟨_,h2⟩ | ⟨x,x',h1,h2,h3⟩
  ·rw [List.getD_eq_getElem?_getD,List.getElem?_map,List.getElem?_eq_getElem (by omega)] at h2
   simp at h2
  ·refine ⟨x,x',h1,h2,?_⟩
   rw [List.getD_eq_getElem?_getD,List.getElem?_map,List.getElem?_eq_getElem (by omega)] at h3
   rw [List.getElem?_eq_getElem (by omega)]
   simpa using h3
 have live:∀i,i<l.length→find s.mem (l.getD i 0)≠none:=fun i hi=>by
  obtain ⟨x,_,h,_⟩:=get i hi;rw [h];simp
 have mem_get:∀o∈l,∃i,i<l.length∧l.getD i 0=o:=fun o ho=>by
  obtain ⟨i,hi,rfl⟩:=List.mem_iff_getElem.1 ho
  exact ⟨i,hi,by simp [List.getD_eq_getElem?_getD,List.getElem?_eq_getElem hi]⟩
 have get_mem:∀i,i<l.length→l.getD i 0∈l:=fun i hi=>by
  rw [List.getD_eq_getElem?_getD,List.getElem?_eq_getElem hi];exact List.getElem_mem _
 have get_inj:∀i j,i<l.length→j<l.length→l.getD i 0=l.getD j 0→i=j:=fun i j hi hj h=>by
  rw [List.getD_eq_getElem?_getD,List.getElem?_eq_getElem hi,List.getD_eq_getElem?_getD,List.getElem?_eq_getElem hj] at h
  exact (List.getElem_inj hn).1 (by simpa using h)
 have ap:∀o∈l,∀b∈(g o).foot,¬ S b:=by
  intro o ho
  obtain ⟨i,hi,rfl⟩:=mem_get o ho
  obtain ⟨x,x',h1,h2,h3⟩:=get i hi
  refine (R.obj _ x h1).apart (fun k rows e=>?_) (fun cs e=>?_)
  ·subst e
   simp [mapAO] at h2;subst h2
   exact flatP_spec hf k rows (List.mem_of_getElem? h3)
  ·subst e;simp [mapAO] at h2
 have fl:∀i,find (lay 0 (objs.map some)) i=objs[i]?:=by
  intro i
  rw [find_lay]
  by_cases h:i<objs.length
  ·rw [if_pos ⟨by omega,by simpa using h⟩,List.getD_eq_getElem?_getD,List.getElem?_eq_getElem h];simp [h]
  ·rw [if_neg (by simp;omega),List.getElem?_eq_none (by omega)]
 have hρ:∀o o',idx l o=some o'→L o→o'<objs.length∧(find (lay 0 (objs.map some)) o'≠none→find s.mem o≠none∧same (g (l.getD o' 0)) (g o)):=by
  intro o o' h ho
  have h:=idx_some h
  have hi:o'<l.length:=(List.getElem?_eq_some_iff.1 h).1
  have e:l.getD o' 0=o:=by rw [List.getD_eq_getElem?_getD,h];rfl
  exact ⟨by omega,fun _=>⟨by rw [← e];exact live o' hi,by rw [e];exact same.refl _⟩⟩
 refine ⟨live,hlen,ap,?_,fun hv e=>hv.ren (fun _ h=>h) (fun _ _=>rfl) hρ e⟩
 refine { below:=Keep.refl _ _,hB:=fun _ h=>h.1,hH:=fun _ h=>absurd rfl h,inv:=fun Q hQ=>(R.now hQ).mono fun b hb hu=>⟨hb,fun o ho hf=>(by obtain ⟨i,hi,e⟩:=mem_get o ho;subst e;exact (R.bound _ (live i hi) b hf).1 hu)⟩,defers:=rfl,size:=rfl,env:=fun t=>.any _,obj:=fun i ao h=>?_,new:=fun i h=>?_,nodup:=fun i h=>?_,bound:=fun i h b hb=>?_,apart:=fun i j hij hi hj b hb hb'=>?_,still:=R.still,sub:=fun _ h _=>h,xs:=⟨by simp,by simp,by simp⟩ }
 ·simp only [fl] at h
  have hi:i<objs.length:=(List.getElem?_eq_some_iff.1 h).1
  obtain ⟨x,x',h1,h2,h3⟩:=get i (by omega)
  rw [h3] at h;simp at h;subst h
  exact (R.obj _ x h1).ren (fun _ h=>h) (fun _ _=>rfl) hρ h2 (fun _ _ hs=>⟨rfl,hs⟩) (fun b hb hU=>hU.2 _ (get_mem i (by omega)) hb) fun _ _ _ _ f hf=>by simp at hf
 ·simp only [fl];exact List.getElem?_eq_none (by simpa using h)
 ·simp only [fl] at h
  have hi:i<objs.length:=Classical.byContradiction fun hc=>h (List.getElem?_eq_none (by omega))
  exact R.nodup _ (live i (by omega))
 ·simp only [fl] at h
  have hi:i<objs.length:=Classical.byContradiction fun hc=>h (List.getElem?_eq_none (by omega))
  exact ⟨fun hU=>hU.2 _ (get_mem i (by omega)) hb,(R.bound _ (live i (by omega)) b hb).2⟩
 ·simp only [fl] at hi hj
  have hi:i<objs.length:=Classical.byContradiction fun hc=>hi (List.getElem?_eq_none (by omega))
  have hj:j<objs.length:=Classical.byContradiction fun hc=>hj (List.getElem?_eq_none (by omega))
  exact R.apart _ _ (fun e=>hij (get_inj i j (by omega) (by omega) e)) (live i (by omega)) (live j (by omega)) b hb hb'

theorem bkN_inj {l:List Nat} {id:Nat} (hn:l.Nodup) (hid:∀o∈l,o<id∨id+stride≤o) {n:Nat} (hl:n≤l.length+stride) {i j o:Nat} (hi:i<n) (hj:j<n) (h1:bkN l id i=some o) (h2:bkN l id j=some o):i=j:=by
 unfold bkN at h1 h2
 split at h1
 ·rename_i x hx
  split at h2
  ·rename_i y hy
   simp at h1 h2;subst h1;subst h2
   obtain ⟨a1,a2⟩:=List.getElem?_eq_some_iff.1 hx
   obtain ⟨b1,b2⟩:=List.getElem?_eq_some_iff.1 hy
   exact (List.getElem_inj hn).1 (a2.trans b2.symm)
  ·rename_i hy
   simp at h1 h2
   have:=hid x (List.mem_of_getElem? hx)
   have:=List.getElem?_eq_none_iff.1 hy
   omega
 ·rename_i hx
  have hx:=List.getElem?_eq_none_iff.1 hx
  split at h2
  ·rename_i y hy
   simp at h1 h2
   have:=hid y (List.mem_of_getElem? hy)
   omega
  ·rename_i hy
   have hy:=List.getElem?_eq_none_iff.1 hy
   simp at h1 h2;omega

theorem sound_turn (hP:B.I P) (hCT:∀F args objs objs' rv,C.t F args objs objs' rv→Turn P F args objs objs' rv) (R:Rel B N w₀ L s a w S g []) (hF:Fresh L id) {f:Operand} {xs:List Operand} {ts:List TypeId} (ho:o.op=.call { callee:=.value f,args:=⟨xs⟩,argTypes:=⟨ts⟩ })
  {gf:FuncId} {caps:List AV} (hf:evA T s 0 f=.fn gf caps) (h:turnA C (find s.mem) id gf (mapT (evA T s) ts xs++caps) K):Goal P B N w₀ L s a w id K o Q:=by
 rw [turnA_eq] at h
 split at h
 ·rename_i l args' os hc
  split at h
  ·rename_i objs hsome
   obtain ⟨hflat,objs',rv,hct,h⟩:=h
   have ht:=hCT _ _ _ _ _ hct
   split at h
   ·rename_i hble
    have hble:=Nat.le_of_ble_eq_true hble
    split at h
    ·rename_i u hu
     split at h
     ·rename_i v hv
      have hos:=allSome_get hsome
      subst hos
      unfold canon canonL at hc
      generalize collN (find s.mem) 24 0 (collL [] (mapT (evA T s) ts xs++caps))=l' at hc
      split at hc
      ·rename_i hnd
       split at hc
       ·rename_i rs hrs
        split at hc
        ·rename_i os hos
         simp only [Option.some.injEq,Prod.mk.injEq] at hc
         obtain ⟨rfl,rfl,rfl⟩:=hc
         have hnd:=noDup_nodup hnd
         obtain ⟨live,hlen,hap,R1,tr⟩:=R.part hnd hos hflat
         obtain ⟨a1,a2⟩:=mapL_get hrs
         have ef:=R.ev (T:=T) 0 f
         rw [hf] at ef
         generalize hfv:a.eval f=fv at ef
         cases ef with
         | fn _ _ vcaps hl hin=>
          obtain ⟨l1,r1⟩:=rv_mapT (T:=T) R ts xs
          have hargs:∀i,i<(mapT (evA T s) ts xs++caps).length→RV S (hp w) g (find s.mem) L ((mapT (evA T s) ts xs++caps).getD i .any) ((xs.map a.eval++vcaps).getD i undef):=by
           intro i hi
           rw [getD_append,getD_append,l1,List.length_map]
           split
           ·rename_i hlt;exact r1 i hlt
           ·exact hin _ (by simp [l1] at hi;omega)
          obtain ⟨fn,hfn,hname,hbody⟩:=ht.fn
          have hrun:(execOp a.eval o).run P w=.ok (.enter gf ⟨xs.map a.eval++vcaps⟩) w:=by
           have hname':¬ (fn.name = "runtime.NumGoroutine"):=by simpa using hname
           have hbody':¬ (fn.body=none):=by intro e;rw [e] at hbody;simp at hbody
           simp [execOp,ho,resolve,invoke,Deferred.ofValue,hfv,callFunc,hfn,hname',hbody']
          unfold Goal Oper.wp
          rw [hrun,Oper.upon_enter]
          refine Calls.mono (ht.calls w _ _ S _ R1 hP (by rw [a1];simp [l1,hl]) fun i hi=>tr (hargs i (by omega)) (a2 i (by omega))) fun e w' he=>?_
          cases e with
          | panicked c=>exact he.elim
          | outgrown=>exact he.elim
          | returned val=>
           obtain ⟨S',g',R2,hsame,hrv⟩:=he
           -- the names
           have hidl:∀o∈l',o<id∨id+stride≤o:=by
            intro o ho
            refine Classical.byContradiction fun hc=>?_
            obtain ⟨i,hi,rfl⟩:=List.mem_iff_getElem.1 ho
            have:=live i hi
            rw [List.getD_eq_getElem?_getD,List.getElem?_eq_getElem hi] at this
            replace this:find s.mem l'[i]≠none:=this
            exact this (R.new _ (hF _ (by omega) (by omega)))
           have inj:∀i j o,i<objs'.length→j<objs'.length→bkN l' id i=some o→bkN l' id j=some o→i=j:=fun i j o hi hj h1 h2=>bkN_inj hnd hidl hble hi hj h1 h2
           obtain ⟨u1,u2⟩:=upsB_find (mm:=s.mem) hu (fun i j o _ _ hj hi h1 h2=>inj i j o (by omega) (by omega) h1 h2)
           simp only [Nat.zero_add] at u1 u2
           let g2:Nat→OG:=fun o=>open Classical in if h:∃i,i<objs'.length∧bkN l' id i=some o then g' (Classical.choose h) else g o
           have g2i:∀i o,i<objs'.length→bkN l' id i=some o→g2 o=g' i:=by
            intro i o hi h
            have hex:∃i,i<objs'.length∧bkN l' id i=some o:=⟨i,hi,h⟩
            have hc:=Classical.choose_spec hex
            simp only [g2,dif_pos hex]
            rw [inj _ _ _ hc.1 hi hc.2 h]
           have g2n:∀o,(∀i,i<objs'.length→bkN l' id i≠some o)→g2 o=g o:=by
            intro o h
            simp only [g2]
            rw [dif_neg];rintro ⟨i,hi,hc⟩;exact h i hi hc
           let S2:Nat→Prop:=fun b=>S b∨S' b
           let L2:=upTo L id stride
           have keep:∀b,b<w.heap.size→(∀o∈l',b∉(g o).foot)→hp w' b=hp w b:=fun b h1 h2=>R2.below.block b ⟨h1,h2⟩
           have sU:∀b,S b→b<w.heap.size∧∀o∈l',b∉(g o).foot:=fun b hb=>⟨R.still b hb,fun o ho hb'=>hap o ho b hb' hb⟩
           have hS'U:∀b,S' b→(b<w.heap.size∧∀o∈l',b∉(g o).foot)→S b:=fun b hb hu=>R2.sub b hb hu
           have bk:∀i o,bkN l' id i=some o→i<l'.length→o=l'.getD i 0:=by
            intro i o h hi
            simp only [bkN,List.getElem?_eq_getElem hi,Option.some.injEq] at h
            rw [List.getD_eq_getElem?_getD,List.getElem?_eq_getElem hi,← h];rfl
           have bk':∀i o,bkN l' id i=some o→l'.length≤i→o=id+(i - l'.length):=by
            intro i o h hi
            simp only [bkN,List.getElem?_eq_none hi,Option.some.injEq] at h
            exact h.symm
           have fl:∀i,find (lay 0 objs') i=objs'.getD i none:=by
            intro i
            rw [find_lay]
            by_cases h:i<objs'.length
            ·rw [if_pos ⟨by omega,by omega⟩];rfl
            ·rw [if_neg (by omega),List.getD_eq_getElem?_getD,List.getElem?_eq_none (by omega)];rfl
           have inr:∀o,(∃i,i<objs'.length∧bkN l' id i=some o)∨∀i,i<objs'.length→bkN l' id i≠some o:=by
            intro o
            rcases Classical.em (∃i,i<objs'.length∧bkN l' id i=some o) with h | h
            ·exact .inl h
            ·exact .inr fun i hi hc=>h ⟨i,hi,hc⟩
           have fin:∀i o,i<objs'.length→bkN l' id i=some o→(find (lay 0 objs') i=none∧find (u++s.mem) o=none)∨∃x x',find (lay 0 objs') i=some x∧mapAO (bkN l' id) x=some x'∧find (u++s.mem) o=some x':=by
            intro i o hi h
            obtain ⟨o',e1,e2⟩:=u1 i hi
            rw [h] at e1;simp at e1;subst e1
            rw [fl];exact e2
           have notin:∀o,L o→(∀i,i<objs'.length→bkN l' id i≠some o)→o∉l':=by
            intro o _ h ho
            obtain ⟨i,hi,rfl⟩:=List.mem_iff_getElem.1 ho
            have:=ht.len
            exact h i (by omega) (by simp [bkN,List.getElem?_eq_getElem hi])
           have st:Step S S2 (hp w) (hp w') g g2 (find s.mem) (find (u++s.mem)) L L2:=by
            refine ⟨fun _ h=>.inl h,fun b hb=>keep b (sU b hb).1 (sU b hb).2,fun o ho hm=>?_,fun o ho hm=>?_,fun o ho=>.inl ho⟩
            ·rcases inr o with ⟨i,hi,hb⟩ | hn
             ·rw [g2i i o hi hb]
              have hil:i<l'.length:=by
               refine Classical.byContradiction fun hc=>?_
               have:=bk' i o hb (by omega)
               exact hF o (by omega) (by omega) ho
              have e:=bk i o hb hil
              have hm':find (lay 0 objs') i≠none:=by
               rcases fin i o hi hb with ⟨_,h2⟩ | ⟨x,x',h1,_⟩
               ·exact absurd h2 hm
               ·rw [h1];simp
              have:=hsame i (by omega) hm'
              rw [e];exact this
             ·rw [g2n o hn];exact ⟨rfl,fun _=>rfl,rfl,rfl,fun _=>rfl⟩
            ·rcases inr o with ⟨i,hi,hb⟩ | hn
             ·have hil:i<l'.length:=by
               refine Classical.byContradiction fun hc=>?_
               have:=bk' i o hb (by omega)
               exact hF o (by omega) (by omega) ho
              rw [bk i o hb hil];exact live i hil
             ·rw [u2 o hn] at hm;exact hm
           have hρ:∀i o,bkN l' id i=some o→i<objs'.length→L2 o∧(find (u++s.mem) o≠none→find (lay 0 objs') i≠none∧same (g2 o) (g' i)):=by
            intro i o h hi
            refine ⟨?_,fun hm=>⟨?_,by rw [g2i i o hi h];exact same.refl _⟩⟩
            ·by_cases hil:i<l'.length
             ·rw [bk i o h hil]
              exact .inl (Classical.byContradiction fun hc=>live i hil (R.new _ hc))
             ·have:=bk' i o h (by omega)
              exact .inr ⟨by omega,by omega⟩
            ·rcases fin i o hi h with ⟨_,h2⟩ | ⟨x,x',h1,_⟩
             ·exact absurd h2 hm
             ·rw [h1];simp
           have notU:∀b,¬ (b<w.heap.size∧∀o∈l',b∉(g o).foot)→¬ B.U b:=by
            intro b hb hU
            refine hb ⟨R.hB b hU,fun o ho hb'=>?_⟩
            obtain ⟨i,hi,rfl⟩:=List.mem_iff_getElem.1 ho
            have:=live i hi
            rw [List.getD_eq_getElem?_getD,List.getElem?_eq_getElem hi] at this
            exact (R.bound _ this b hb').1 hU
           have sz:w.heap.size≤w'.heap.size:=R2.below.size
           have own:∀i o,i<objs'.length→bkN l' id i=some o→find (u++s.mem) o≠none→find (lay 0 objs') i≠none:=fun i o hi h=>fun hm=>((hρ i o h hi).2 hm).1
           have rel:Rel B N w₀ L2 ⟨s.env,u++s.mem,s.next⟩ a w' S2 g2 []:=by
            refine { below:=R.below.trans ⟨R2.below.os,R2.below.tape,R2.below.output,R2.below.size,fun b hb=>?_⟩,hB:=fun b hb=>Nat.lt_of_lt_of_le (R.hB b hb) sz,hH:=fun b hb=>Nat.lt_of_lt_of_le (R.hH b hb) sz,inv:=R.inv,defers:=R.defers,size:=R.size,env:=fun t=>(R.env t).step st,obj:=fun o ao hm=>?_,new:=fun o h=>?_,nodup:=fun o hm=>?_,bound:=fun o hm b hb=>?_,apart:=fun o1 o2 hne h1 h2 b hb1 hb2=>?_,still:=fun b hb=>hb.elim (fun h=>Nat.lt_of_lt_of_le (R.still b h) sz) (R2.still b),sub:=fun b hb hU=>?_,xs:=⟨by simp,by simp,by simp⟩ }
            ·exact R2.below.block b (Classical.byContradiction fun hc=>notU b hc hb)
            ·rcases inr o with ⟨i,hi,hb⟩ | hn
             ·rw [g2i i o hi hb]
              rcases fin i o hi hb with ⟨_,h2⟩ | ⟨x,x',h1,h2,h3⟩
              ·rw [h2] at hm;simp at hm
              ·rw [h3] at hm;simp at hm;subst hm
               refine (R2.obj i x h1).ren (fun _ h=>.inr h) (fun _ _=>rfl) (fun o o' hr hl=>hρ o o' hr hl) h2 (fun b hb hs=>⟨rfl,fun h=>h.elim (fun h=>?_) hs⟩) (fun b hb=>?_) (fun k rows ed hl0 f hf=>?_)
               ·exact (R2.bound i (by rw [h1];simp) b hb).1 (sU b h)
               ·exact notU b (R2.bound i (by rw [h1];simp) b hb).1
               ·subst ed
                obtain ⟨k0,rows0,hk0⟩:=ht.kind i k rows (by rw [← fl];exact h1)
                have hio:i<objs.length:=(List.getElem?_eq_some_iff.1 hk0).1
                have hs0:=hsame i hio (by rw [h1];simp)
                have hil:i<l'.length:=by omega
                rcases (mapOs_get hos).2 i hil with ⟨_,p2⟩ | ⟨y,y',p1,p2,p3⟩
                ·rw [List.getD_eq_getElem?_getD,List.getElem?_map,hk0] at p2;simp at p2
                ·rw [List.getD_eq_getElem?_getD,List.getElem?_map,hk0] at p3
                 simp at p3;subst p3
                 have hy:∃k1 rows1,y=.deep k1 rows1:=by
                  cases y with
                  | deep k1 rows1=>exact ⟨k1,rows1,rfl⟩
                  | box cs=>simp only [mapAO] at p2;split at p2 <;> simp at p2
                  | _=>simp [mapAO] at p2
                 obtain ⟨k1,rows1,rfl⟩:=hy
                 obtain ⟨_,c2,_,c4,c5⟩:=hs0
                 have hl1:(g (l'.getD i 0)).len≠0:=by rw [← c4];exact hl0
                 rw [c5 hl1]
                 rw [c2 hl1] at hf
                 have ho1:=R.obj _ _ p1
                 generalize g (l'.getD i 0)=G0 at ho1 hl1 hf
                 cases ho1 with
                 | dnil=>exact absurd rfl hl1
                 | deep _ _ _ _ _ _ _ _ _ _ _ _ _ _ _ _ _ _ _ hH1=>exact hH1 hl1 f hf
             ·rw [u2 o hn] at hm
              rw [g2n o hn]
              have hL:L o:=Classical.byContradiction fun hc=>by rw [R.new o hc] at hm;simp at hm
              have hno:=notin o hL hn
              refine (R.obj o ao hm).step st fun b hb hs=>?_
              have hb1:b<w.heap.size∧∀o∈l',b∉(g o).foot:=by
               refine ⟨(R.bound o (by rw [hm];simp) b hb).2,fun o' ho' hb'=>?_⟩
               obtain ⟨i,hi,rfl⟩:=List.mem_iff_getElem.1 ho'
               have:=live i hi
               rw [List.getD_eq_getElem?_getD,List.getElem?_eq_getElem hi] at this
               exact R.apart o l'[i] (fun e=>hno (e ▸ ho')) (by rw [hm];simp) this b hb hb'
              exact ⟨keep b hb1.1 hb1.2,fun h=>h.elim hs fun h=>hs (hS'U b h hb1)⟩
            ·rcases inr o with ⟨i,hi,hb⟩ | hn
             ·exact absurd (hρ i o hb hi).1 h
             ·show find (u++s.mem) o=none
              rw [u2 o hn];exact R.new o fun hc=>h (.inl hc)
            ·rcases inr o with ⟨i,hi,hb⟩ | hn
             ·rw [g2i i o hi hb];exact R2.nodup i (own i o hi hb hm)
             ·replace hm:find (u++s.mem) o≠none:=hm
              rw [u2 o hn] at hm;rw [g2n o hn];exact R.nodup o hm
            ·rcases inr o with ⟨i,hi,hb'⟩ | hn
             ·rw [g2i i o hi hb'] at hb
              have:=R2.bound i (own i o hi hb' hm) b hb
              exact ⟨notU b this.1,this.2⟩
             ·replace hm:find (u++s.mem) o≠none:=hm
              rw [u2 o hn] at hm;rw [g2n o hn] at hb
              have:=R.bound o hm b hb
              exact ⟨this.1,Nat.lt_of_lt_of_le this.2 sz⟩
            ·have mixed:∀o1 o2 i,i<objs'.length→bkN l' id i=some o1→(∀i,i<objs'.length→bkN l' id i≠some o2)→find (u++s.mem) o1≠none→find (u++s.mem) o2≠none→∀b∈(g2 o1).foot,b∉(g2 o2).foot:=by
              intro o1 o2 i hi hb hn h1 h2 b hb1 hb2
              rw [g2i i o1 hi hb] at hb1
              rw [g2n o2 hn] at hb2
              rw [u2 o2 hn] at h2
              have hL:L o2:=Classical.byContradiction fun hc=>h2 (R.new o2 hc)
              have hno:=notin o2 hL hn
              refine (R2.bound i (own i o1 hi hb h1) b hb1).1 ⟨(R.bound o2 h2 b hb2).2,fun o' ho' hb'=>?_⟩
              obtain ⟨j,hj,rfl⟩:=List.mem_iff_getElem.1 ho'
              have:=live j hj
              rw [List.getD_eq_getElem?_getD,List.getElem?_eq_getElem hj] at this
              exact R.apart o2 l'[j] (fun e=>hno (e ▸ ho')) h2 this b hb2 hb'
             rcases inr o1 with ⟨i,hi,hb⟩ | hn
             ·rcases inr o2 with ⟨j,hj,hb'⟩ | hn'
              ·rw [g2i i o1 hi hb] at hb1
               rw [g2i j o2 hj hb'] at hb2
               exact R2.apart i j (fun e=>hne (by subst e;rw [hb] at hb';simpa using hb')) (own i o1 hi hb h1) (own j o2 hj hb' h2) b hb1 hb2
              ·exact mixed o1 o2 i hi hb hn' h1 h2 b hb1 hb2
             ·rcases inr o2 with ⟨j,hj,hb'⟩ | hn'
              ·exact mixed o2 o1 j hj hb' hn h2 h1 b hb2 hb1
              ·rw [g2n o1 hn] at hb1;rw [g2n o2 hn'] at hb2
               replace h1:find (u++s.mem) o1≠none:=h1
               replace h2:find (u++s.mem) o2≠none:=h2
               rw [u2 o1 hn] at h1;rw [u2 o2 hn'] at h2
               exact R.apart o1 o2 hne h1 h2 b hb1 hb2
            ·rcases hb with hb | hb
             ·exact R.sub b hb hU
             ·exact R.sub b (hS'U b hb (Classical.byContradiction fun hc=>notU b hc hU)) hU
           exact ⟨val,rfl,v,u,S2,g2,L2,h,names_upTo L id stride (Nat.le_refl _),rel,hrv.ren (fun _ h=>.inr h) (fun _ _=>rfl) (fun o o' hr hl=>hρ o o' hr hl) hv⟩
        ·simp at hc
       ·simp at hc
      ·simp at hc
     ·exact h.elim
    ·exact h.elim
   ·exact h.elim
  ·exact h.elim
 ·exact h.elim

end

end Go.Av
